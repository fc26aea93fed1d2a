/- Lemmas of thronglaw29; no conditions. -/
import Derived.Test.YtphhbmaalpdnoaaGreatKR
import Derived.Test.YtphhbmaalpdnoaaGreatKQ
set_option linter.unusedSimpArgs false
set_option linter.unusedVariables false
set_option linter.defProp false
open List renaming length→Γ
open Option renaming some→Δ,none→Θ
namespace Go.Proofs
open Go Go.V Tryz
set_option maxRecDepth 20000
set_option maxHeartbeats 4000000
abbrev u32A(n:Int):AV:=.s (.int .u32 n)
abbrev i32A(n:Int):AV:=.s (.int .i32 n)
def pt(b:Nat)(l:List AV)(d:Int)(o:Nat)(st:Store)(R:Ja)(hb:st.obj b=Δ (.cells l))(hl:l[o]?=Δ (u32A d))(h:R (V.bool (d != 0)) st):
  Jb 202 [ptrA b o] st R:=by
 refine Qy 8 func202 ?_;refine yvk func300 ξ ξ ξ .u32 κ hb hl ?_;exact ret h
def yui(x:Bool)(st:Store)(R:Ja)(h:R (u32A (bif x then 1 else 0)) st):Jb 382 [V.bool x] st R:=by
 refine Qy 4 func382 ?_;cases x with
 |true=>exact ret h
 |false=>exact ret h
def ymw(b:Nat)(l:List AV)(o:Nat)(st:Store)(R:Ja)(hb:st.obj b=Δ (.cells l))(hl:l[o]?=Δ (i32A 0))(h:R (.tup []) (st.sO b (.cells (zu l o [i32A 1])))):
  Jb 379 [ptrA b o] st R:=by
 have a:(zu l o [i32A 1])[o]?=Δ (i32A 1):=by have:=(Fa1.1 hl).1;unfold zu;rw[Faq,Fa0 θd];rw[Fah,Fd8 Z,Nat.sub_self];rfl
 refine Qy 13 func379 ?_;refine ef func430 ξ ξ ξ .disable κ ?_;refine yvl func431 ξ ξ ξ .i32 κ hb hl ?_;refine ef func432 ξ ξ ξ .enable κ ?_;refine zie rfl κ (zd _ _ _) a ?_;refine zij func433 ξ ξ ξ .acquire κ ?_;exact ret h
def zj1(b:Nat)(d s x:AV)(st:Store)(R:Ja)(hb:st.obj b=Δ (.cells [d,i32A 1,s,x]))(h:R (.tup []) (st.sO b (.cells [d,i32A 0,s,x]))):
  Jb 380 [ptrA b 1] st R:=by
 refine Qy 21 func380 ?_;refine Qby ?_;refine zie rfl κ hb rfl ?_;refine zij func435 ξ ξ ξ .releaseMerge κ ?_;refine ef func430 ξ ξ ξ .disable κ ?_;refine zik func436 ξ ξ ξ .i32 κ hb rfl (s:=0) (λw=>by simp[go_sem];rfl) ?_;refine ef func432 ξ ξ ξ .enable κ ?_;exact ret h
def ylz(b:Nat)(d s x:AV)(a:Store)(R:Store->Prop)(e:a.obj b=Δ (.cells [d,i32A 1,s,x]))(h:R (a.sO b (.cells [d,i32A 0,s,x]))):
  ADefer Tryz.prog 302 [ptrA b 1] a R:=by
 refine ADefer.of_awp (c:={cfg 6 with nm:=true}) zb func302 ξ ξ ξ ξ ?_;refine AWp.of_vc zb ?_;refine zj1 b d s x _ _ e ?_;exact ret h
def ytx(b:Nat)(m s x:AV)(u:Int)(st:Store)(R:Store->Prop)(d:st.obj b=Δ (.cells [u32A u,m,s,x]))(h:R (st.sO b (.cells [u32A 1,m,s,x]))):
  ADefer Tryz.prog 303 [ptrA b 0,V.bool true] st R:=by
 refine ADefer.of_awp (c:={cfg 10 with nm:=true}) zb func303 ξ ξ ξ ξ ?_;refine AWp.of_vc zb ?_;refine Qc zb ycu ?_;refine⟨yui true _ _ ?_,O⟩;have key:∀(a:Ja),a (.tup []) (st.sO b (.cells [u32A 1,m,s,x]))->Jb 381 [ptrA b 0,u32A 1] st a:=λa e=>yvj func381 ξ ξ ξ κ (u:=.int .u32 u) d ξ e;refine⟨Qe,⟨key _ ?_,O⟩⟩;refine⟨Qe,?_⟩;exact ret h
def yl1(b:Nat)(l:List AV)(o:Nat)(st:Store)(R:Ja)(hb:st.obj b=Δ (.cells l))(hl:l[o]?=Δ (i32A 0))(h:R (.tup []) (st.sO b (.cells (zu l o [i32A 1])))):
  Jb 301 [ptrA b o] st R:=by
 refine Qy 6 func301 ?_;refine ymw b l _ _ _ hb hl ?_;exact ret h
def yan(b:Nat)(s x:AV)(g:FuncId)(a:List AV)(e:Store)(R:Ja)(h:e.obj b=Δ (.cells [u32A 0,i32A 0,s,x]))
  (f:Jb g a (e.sO b (.cells [u32A 0,i32A 1,s,x])) λ_ S=>∃d,S.obj b=Δ (.cells [u32A 0,i32A 1,s,d])/\R (.tup []) (S.sO b (.cells [u32A 1,i32A 0,s,d]))):
  Jb 203 [ptrA b 0,.clos g a] e R:=by
 refine ACalls.of_awpD (c:={cfg 21 with nm:=true}) zb func203 ξ ξ ξ ξ ξ ?_;refine AWpD.seq (AWpD.of (AWp.of_vc zb ?_));refine yl1 b _ 1 _ _ h rfl ?_;refine AWpD.seq (AWpD.deferL zb rfl rfl rfl rfl rfl ?_);refine⟨302,[.pointer (Δ ⟨b,1,Θ⟩)],rfl,rfl,?_⟩;refine AWpD.seq (AWpD.of (AWp.of_vc zb ?_));refine pt b _ 0 0 _ _ (zd _ _ _) rfl ?_;refine AWpD.cond true rfl ?_;refine AWpD.seq (AWpD.deferL zb rfl rfl rfl rfl rfl ?_);refine⟨303,[.pointer (Δ ⟨b,0,Θ⟩),.bool true],rfl,rfl,?_⟩;refine AWpD.of (AWp.of_vc zb ?_);refine f.imp λr S ⟨d,j,i⟩=>?_;refine⟨303,[.pointer (Δ ⟨b,0,Θ⟩),.bool true],rfl,?_⟩;refine ytx b _ _ _ 0 _ _ j ?_;refine⟨302,[.pointer (Δ ⟨b,1,Θ⟩)],rfl,?_⟩;refine ylz b _ _ _ _ _ (zd _ _ _) ?_;rw[ym];exact i
def zcw(b:Nat)(s x:AV)(g:FuncId)(a:List AV)(st:Store)(R:Ja)(hb:st.obj b=Δ (.cells [u32A 0,i32A 0,s,x]))
  (hf:Jb g a (st.sO b (.cells [u32A 0,i32A 1,s,x])) λ_ S=>∃c,S.obj b=Δ (.cells [u32A 0,i32A 1,s,c])/\R (.tup []) (S.sO b (.cells [u32A 1,i32A 0,s,c]))):
  Jb 125 [ptrA b 0,.clos g a] st R:=by
 refine Qy 12 func125 ?_;refine pt b _ 0 0 _ _ hb rfl ?_;refine yan b s x g a _ _ hb (hf.imp λr S ⟨c,e,d⟩=>⟨c,e,?_⟩);exact ret d
def zcx(b:Nat)(l:List AV)(f:AV)(st:Store)(R:Ja)(hb:st.obj b=Δ (.cells (u32A 1::l)))(h:R (.tup []) st):
  Jb 125 [ptrA b 0,f] st R:=by
 refine Qy 12 func125 ?_;refine pt b _ 1 0 _ _ hb rfl ?_;exact ret h
def nn(b o:Nat)(l:List AV)(x y:Int)(st:Store)(R:Ja)(hb:st.obj b=Δ (.cells l))(hl:l[o]?=Δ (.s (.int .i64 x)))(h:∀n:Int,R (.s (.int .i64 n)) (st.sO b (.cells (zu l o [.s (.int .i64 n)])))):
  Jb 505 [ptrA b o,.s (.int .i64 y)] st R:=by
 refine Qy 10 func505 ?_;refine zik func510 ξ ξ ξ .i64 κ hb hl (s:=IntKind.wrap .i64 (x+y)) (λw=>by simp[go_sem]) ?_;exact ret (h _)
section
variable {v:AV} {N:Store} {c:Nat} {room:Int}
def ynu{S:Store}{a:List Int}(l:Ints S v a)(hn:Γ a<=1000000)(x:Int)(R:Ja)(k:x∉a->R (int (-1)) S)
  (u:∀i:Nat,a[i]?=Δ x->(∀j<i,a[j]?≠Δ x)->R (int i) S):
  Jb 439 [v,int x] S R:=by
 rcases l with⟨rfl,rfl⟩|⟨b,g,L,rfl,hb,t,p,o⟩
 .refine Qy 19 func439 ?_;refine AWp.loop (σ:=Nat) ⟨λi=>[(7,.av (int (0:Nat))),(8,.av (int (0:Nat)))],λ_=>[],λi d=>d=S,λi=>i⟩ zb ?_ ?_
  .exact⟨0,O,rfl,⟨Y,Y,O⟩,O⟩
  rintro i d rfl;exact ret (k φ)
 .refine Qy 19 func439 ?_
  refine AWp.loop (σ:=Nat) ⟨λi=>[(0,.av (.s (.slice (Δ ⟨b,0,Θ⟩) (Γ a) g))),(1,.av (int x)),(7,.av (int (Γ a))),(8,.av (int (i)))],λ_=>[],
   λi d=>i<=Γ a/\d=S/\∀j,j<i->a[j]?≠Δ x,λi=>Γ a-i⟩ zb ?_ ?_
  .exact⟨0,O,⟨Fae _,rfl,λj h=>absurd h (Fav j)⟩,Qbt,O⟩
  rintro i d ⟨z,rfl,f⟩;refine bcd (λy=>?_) (λy=>?_);rotate_left
  .refine ret (k (λhm=>?_));grind[List.mem_iff_getElem?]
  have e:i<Γ a:=Z;refine⟨i,rfl,e,?_⟩;refine J _ hb ?_;have n:((a.map aI++L).drop (0+i*1)).head?=Δ (int a[i]):=by rw[Fb0,Far χ];simp[e];rfl
  refine J _ n ?_;refine zp (λw=>?_) (λw=>?_)
  .refine ret (u i ?_ f);grind
  .refine Qd ?_;refine⟨i+1,?_,⟨Z,rfl,λj h=>?_⟩,Qbt,O⟩
   .grind
   grind
def zf6(k:Int):∀(a:List Int) (i:Nat),a[i]?=Δ k->(∀j<i,a[j]?≠Δ k)->a.erase k=a.take i++a.drop (i+1)
 |[],i,h,_=>θk
 |x::l,0,h,_=>δ
 |x::l,i+1,h,b=>by
  have hx:x≠k:=λe=>b 0 Z (by simp[e]);have d:=zf6 k l i (by simpa using h) λj f=>by simpa using b (j+1) Z
  rw[List.erase_cons_tail θp,d];simp
def qx(N:Store)(c:Nat)(room:Int)(g:List (Int×Int))(f:List Int):Prop:=
 ∃m v h e i a,N.obj c=Δ (.cells [int room,.s (.map (Δ m)),v,int h,int e])/\N.obj m=Δ (.map (g.map (qa λk=>int k)) i a)/\Ints N v f/\c≠m/\(∀b n d,v=.s (.slice (Δ ⟨b,0,Θ⟩) n d)->b≠c/\b≠m)
def ysp{z:List (Int×Int)}{a:List Int}(H:qx N c room z a)(C:Γ a<=1000000)(k:Int)(R:Ja)
  (h:∀B,qx B c room z (a.erase k)->R (.tup []) B):Jb 512 [ptr c,int k] N R:=by
 obtain⟨m,v,u,e,A,g,j,I,o,y,w⟩:=H;refine Qy 24 func512 ?_;refine J _ j ?_;refine ynu o C k _ (λhn=>?_) (λi t hl=>?_)
 .refine ret (h N ?_);rw[List.erase_of_not_mem hn];exact⟨m,v,u,e,A,g,j,I,o,y,w⟩
 .have l:i<Γ a:=(Fa1.1 t).1;have D:a.erase k=a.take i++a.drop (i+1):=zf6 k a i t hl;rcases o with⟨rfl,rfl⟩|⟨b,p,L,rfl,hb,n,E,d⟩
  .simp at l
  obtain⟨f,G⟩:=w b _ _ rfl;refine J _ j ?_;refine Qd ?_;have K:((i:Int)+1)=((i+1:Nat)):=Z;rw[K];refine zgl hb n d Z Z _ ?_;refine J _ ((zi f.symm).trans j) ?_;refine⟨φ,?_⟩;refine ret (h _ ?_);rw[D];refine⟨m,_,u,e,A,g,zd _ _ _,?_,.inr ⟨b,p,List.replicate (i+1-i) (aI 0)++L,rfl,?_,?_,?_,d⟩,y,λS M Q P=>?_⟩
  .simp_all[zi,Ne.symm]
  .rw[zi f];exact zd _ _ _
  .simp;omega
  .simp;omega
  grind
def zgo{cs:List (Int×Int)}{ks:List Int}(G:qx N c room cs ks)(C:Γ ks<=1000000)(k:Int)(R:Ja)
  (h:∀u,qx u c room cs (k::ks.erase k)->R (.tup []) u):Jb 507 [ptr c,int k] N R:=by
 refine Qa (c:=cfg 17 [13,1000013] []) zb func507 ?_;refine ysp G C k _ λV l=>?_;obtain⟨m,v,D,e,K,n,t,S,p,I,H⟩:=l;have B:(ks.erase k).length<=Γ ks:=δ;refine J _ t ?_;refine⟨ψ,λo a=>?_⟩;have i:c≠o:=λe=>by have:=a.1;grind
 have A:m≠o:=λe=>by have:=a.1;grind
 refine ng (p.fresh _ a) k 0 (Fae _) (zd _ _ _) (λb g j Q=>?_) Z _ (λb g L d z y w=>?_)
 .rcases p with⟨rfl,_⟩|⟨M,cap',W,rfl,E,_⟩
  .cases j
  .simp only[AV.s.injEq,Addr.mk.injEq]at j;have:=a.1;grind
 have f:b≠c/\b≠m:=by
  rcases d with d|⟨T,d⟩
  .refine⟨λe=>?_,λe=>?_⟩
   .have:=d.1;grind[zi]
   .have:=d.1;grind[zi]
  .exact H _ _ _ d
 refine J _ ((zi f.1.symm).trans ((zi i).trans t)) ?_;refine⟨φ,?_⟩;refine ret (h _ ?_);refine⟨m,_,D,e,K,n,zd _ _ _,?_,.inr ⟨b,g,L,rfl,?_,z,y,w⟩,I,λM P U j=>?_⟩
 .simp_all[zi,Ne.symm]
 .rw[zi f.1];exact zd _ _ _
 grind
def W7{e:List Int}(h:Ints N v e)(d:∀b n a,v=.s (.slice (Δ ⟨b,0,Θ⟩) n a)->b≠c)(x:AObj):Ints (N.sO c x) v e:=by
 rcases h with⟨rfl,rfl⟩|⟨b,a,L,rfl,f,j,i,g⟩
 .exact .inl ⟨rfl,rfl⟩
 .exact .inr ⟨b,a,L,rfl,by rw[zi (d b _ _ rfl)];exact f,j,i,g⟩
theorem ymv{α:Type}(f:α->AV)(a:List (Int×α))(k:Int)(z:AV):Gl true z ((a.map (qa f)).find? (qA k))=match qe a k with
  |some v=>.tup [f v,V.bool true]
  |none=>.tup [z,V.bool false]:=by
 rw[oh];unfold qe;cases a.find? λe=>k==e.1 with
 |none=>rfl
 |some e=>rfl
def yto{a:List (Int×Int)}{h:List Int}(D:qx N c room a h)(B:Γ h<=1000000)(k:Int)(R:Ja)
  (G:qe a k=Θ->∀f,qx f c room a h->R (.tup [int 0,V.bool false]) f)
  (E:∀v,qe a k=Δ v->∀f,qx f c room a (k::h.erase k)->R (.tup [int v,V.bool true]) f):Jb 501 [ptr c,int k] N R:=by
 obtain⟨m,v,u,e,z,g,t,p,y,j,i⟩:=D;refine Qy 31 func501 ?_;refine J _ t ?_;refine Bi rfl rfl rfl rfl rfl p rfl (qA k) (λe C=>?_) ?_
 .obtain⟨e,_,rfl⟩:=Fag.1 C;rfl
 rw[ymv];cases w:qe a k with
 |none=>
  refine nn c 4 _ e 1 _ _ t rfl λn=>?_;refine ret (G w _ ⟨m,v,u,n,z,g,zd _ _ _,?_,W7 y (λb n d l=>(i b n d l).1) _,j,i⟩);rw[zi (Ne.symm j)];exact p
 |some A=>
  refine nn c 3 _ u 1 _ _ t rfl λn=>?_;refine zgo (cs:=a) ⟨m,v,n,e,z,g,zd _ _ _,?_,W7 y (λb n d l=>(i b n d l).1) _,j,i⟩ B k _ λf o=>?_
  .rw[zi (Ne.symm j)];exact p
  exact ret (E A w f o)
def yts{p:List (Int×Int)}{i:List Int}(l:qx N c room p i)(R:Ja)
  (h:∀g,qx g c room [] []->R (.tup []) g):Jb 177 [ptr c] N R:=by
 obtain⟨m,v,k,e,y,d,f,o,w,a,u⟩:=l;refine Qy 9 func177 ?_;refine J _ f ?_;refine yvh rfl rfl rfl rfl rfl rfl o ?_;refine J _ ((zi a).trans f) ?_;refine⟨φ,?_⟩;refine ret (h _ ⟨m,.s (.slice Θ 0 0),k,e,[],d,zd _ _ _,?_,.inl ⟨rfl,rfl⟩,a,λb n t j=>by cases j⟩);rw[zi (Ne.symm a)];exact zd _ _ _
def ys7(n:Int)(p:1<=n)(k:n<=4096)(i:Store)(R:Ja)(h:∀g c,qx g c n [] []->R (.tup [ptr c,int 0]) g):
  Jb 105 [int n] i R:=by
 refine Qa (c:=cfg 14 [11,13] []) zb func105 ?_;refine bcd (λf=>absurd f Z) (λf=>?_);refine bcd (λd=>absurd d Z) (λd=>?_);refine Iy rfl (λm t=>?_);intro c l;have a:c≠m:=λe=>by have:=l.1;grind[zd]
 refine ret (h _ c ⟨m,.s (.slice Θ 0 0),0,0,[],0,zd _ _ _,?_,.inl ⟨rfl,rfl⟩,a,λb n o j=>by cases j⟩);rw[zi (Ne.symm a)];exact zd _ _ _
def ymq{α:Type}(f:α->AV)(a:List (Int×α))(h:List Nat)(b:Nat)(k:Int):∃d,Fs (a.map (qa f)) h b (qA k)=.map ((a.eraseP λe=>k==e.1).map (qa f)) d b:=by
 have g:(a.map (qa f)).findIdx? (qA k)=a.findIdx? λe=>k==e.1:=by rw[Fek];rfl
 unfold Fs;rw[g,List.eraseP_eq_eraseIdx];cases a.findIdx? λe=>k==e.1 with
 |none=>exact⟨_,rfl⟩
 |some i=>simp_all[Fdv]
def ysi{g:List (Int×Int)}{a:List Int}(X:qx N c room g a)(hk:Γ a<=100000)(k x:Int)(R:Ja)
  (h1:((k::a.erase k).length:Int)<=room->∀y,qx y c room (yz g k x) (k::a.erase k)->R (.tup []) y)
  (h2:room<((k::a.erase k).length:Int)->∀y,qx y c room ((yz g k x).eraseP λe=>(k::a.erase k).getLastD 0==e.1) (k::a.erase k).dropLast->R (.tup []) y):
  Jb 502 [ptr c,int k,int x] N R:=by
 obtain⟨m,v,z,e,E,d,g1,g2,g3,K,I⟩:=X;refine Qy 49 func502 ?_;refine Qby ?_;refine F6 (.inl rfl) rfl (it:=ti308) (ik:=ti2) rfl rfl rfl g2 rfl rfl (qA k) (λe l=>?_) (λe1 l G=>?_) ?_
 .obtain⟨e,_,rfl⟩:=Fag.1 l;rfl
 .obtain⟨e,_,rfl⟩:=Fag.1 l;grind[qA,qa,int]
 obtain⟨D,u,i⟩:=L8 (λk=>int k) g E d k x;rw[i];refine zgo (cs:=yz g k x) (room:=room) (ks:=a) ⟨m,v,z,e,D,u,(zi K).trans g1,zd _ _ _,W7 g3 (λb n f hv=>(I b n f hv).2) _,K,I⟩ Z k _ λN1 p=>?_;have B:=p;have P:(a.erase k).length<=Γ a:=δ;generalize H:k::a.erase k=Q at*;have V:Γ Q<=100001:=δ;obtain⟨m,v,z,e,E,d,f1,f2,f3,C,M⟩:=p;rcases f3 with⟨rfl,rfl⟩|⟨b,f,L,rfl,hb,U,T,A⟩
 .cases H
 refine Qby ?_;refine Qby ?_;refine bcd (λc1=>?_) (λc1=>?_)
 .refine Qc zb ybe ?_;refine Qby ?_;refine Qby ?_;refine Qd ?_;have W:0<Γ Q:=by
   rw[<-H];simp
  have h:Γ Q-1<Γ Q:=Z;refine⟨Γ Q-1,Z,h,?_⟩;refine Qby ?_;have S:((Q.map aI++L).drop (0+(Γ Q-1)*1)).head?=Δ (int (Q.getLastD 0)):=by rw[Fb0,Far χ,Fau,Fbd,Fem];rw[Fac h,List.getLastD_eq_getLast?,List.getLast?_eq_getElem?,Fac h];rfl
  refine J _ S ?_;refine⟨ed rfl rfl rfl rfl (it:=ti308) (ik:=ti2) rfl rfl rfl f2 rfl (qA (Q.getLastD 0)) (λe l=>?_) ⟨?_,?_⟩,O⟩
  .obtain⟨e,_,rfl⟩:=Fag.1 l;rfl
  .trivial
  obtain⟨w,o⟩:=ymq (λk=>int k) (yz g k x) E d (Q.getLastD 0);rw[o];have t:=(zi (st:=N1) (x:=.map (((yz g k x).eraseP λe=>Q.getLastD 0==e.1).map (qa λk=>int k)) w d) C).trans f1;refine J _ t ?_;refine Qd ?_;refine⟨0,Γ Q-1,rfl,δ,Z,Z,.inl ⟨Z,?_⟩⟩;refine J _ t ?_;refine⟨φ,?_⟩;refine ret (h2 Z _ ⟨m,.s (.slice (Δ ⟨b,0,Θ⟩) (Γ Q.dropLast) f),z,e,w,d,?_,?_,.inr ⟨b,f,[int (Q.getLastD 0)]++L,rfl,?_,χ,χ,A⟩,C,λb' n' c' hv=>?_⟩)
  .grind[zd]
  .rw[zi (Ne.symm C)];exact zd _ _ _
  .rw[zi (M b _ _ rfl).1,zi (M b _ _ rfl).2,hb];have j:Q≠[]:=λe=>by grind
   have hl:Q.getLastD 0=Q.getLast j:=δ;have G:Q=Q.dropLast++[Q.getLastD 0]:=by rw[hl,Fd6 j]
   conv=>lhs;rw[G]
   simp;rfl
  grind
 .exact ret (h1 Z _ B)
end
section
variable {NT NB NU:Store} {w:Wld} {vT vB vU:AV}
theorem kr(u:Bld):(zk u).length=6:=rfl
def Sj(b:Bld):∀y∈zk b,∃x,y=AV.s x/\xq x=true:=by intro y a;simp[zk]at a;rcases a with rfl|rfl|rfl|rfl|rfl|rfl<;>exact⟨_,rfl,rfl⟩
def Vb(c:UInt8):(u8C c).length=1:=rfl
def fk(c:UInt8):∀y∈u8C c,∃x,y=AV.s x/\xq x=true:=by intro y a;simp[u8C]at a;exact⟨_,a,rfl⟩
def F4(a:Store):zl Store.empty a:=λb c=>(c.elim (λh=>h rfl) (λh=>h rfl)).elim
def Sb(a:Store):zl Store.empty a:=λb c=>(c.elim (λh=>h rfl) (λh=>h rfl):False).elim
def ytc(l:List UInt8)(hl:Γ l<=1000000000)(st:Store)(R:Ja)(h:∀v N,RowsQ 1 u8C N v l->zl N st->R v (N.un st)):Jb 131 [yn l] st R:=by
 refine Qy 8 func131 ?_;intro b hb;cases b with
 |true=>
  have:l=[]:=ψo;subst this;have:=h (.s (.slice Θ 0 0)) Store.empty (.inl (.inl ⟨rfl,rfl⟩)) (Sb st);rw[jx]at this;exact ret this
 |false=>
  refine⟨ψ,?_⟩;exact ri (ie:=ti5) rfl Vb ψ hl (λv N a c=>ret (h v N a c))
def dc(l:List Bld)(hl:Γ l<=1000000000)(st:Store)(R:Ja)(h:∀v N,RowsQ 6 zk N v l->zl N st->R v (N.un st)):Jb 112 [lst 6 zk l] st R:=by
 refine Qy 8 func112 ?_;intro b hb;cases b with
 |true=>
  have:l=[]:=ψo;subst this;have:=h (.s (.slice Θ 0 0)) Store.empty (.inl (.inl ⟨rfl,rfl⟩)) (Sb st);rw[jx]at this;exact ret this
 |false=>
  refine⟨ψ,?_⟩;exact ri (ie:=ti61) rfl kr ψ hl (λv N a c=>ret (h v N a c))
def ytb(l:List Unt)(hl:Γ l<=1000000000)(st:Store)(R:Ja)(h:∀v N,RowsQ 10 zf N v l->zl N st->R v (N.un st)):Jb 113 [lst 10 zf l] st R:=by
 refine Qy 8 func113 ?_;intro b hb;cases b with
 |true=>
  have:l=[]:=ψo;subst this;have:=h (.s (.slice Θ 0 0)) Store.empty (.inl (.inl ⟨rfl,rfl⟩)) (Sb st);rw[jx]at this;exact ret this
 |false=>
  refine⟨ψ,?_⟩;exact ri (ie:=ti72) rfl yx ψ hl (λv N a c=>ret (h v N a c))
def nu(g:Gnd)(c:Γ g.T<=1000000000)(st:Store)(R:Ja)(h:∀v N,RowsQ 1 u8C N v g.T->zl N st->R (.agg [int g.W,int g.H,v]) (N.un st)):Jb 69 [.agg (zq g)] st R:=by refine Qy 8 func69 ?_;refine ytc g.T c _ _ (λv N b d=>?_);obtain⟨f,e,a,_⟩:=b.form;subst a;exact ret (h _ N b d)
def I0(w:Wld)(vT vB vU:AV):List AV:=[int w.tick,int w.players,int w.next,int w.G.W,int w.G.H,vT,vB,vU]
structure OwnQ(S:Store)(w:Wld)(vT vB vU:AV)(NT NB NU:Store):Prop where
 e:S=NU.un (NB.un NT)
 rT:RowsQ 1 u8C NT vT w.G.T
 rB:RowsQ 6 zk NB vB w.B
 rU:RowsQ 10 zf NU vU w.U
 dB:zl NB NT
 dU:zl NU (NB.un NT)
def lj(w:Wld)(f:Γ w.G.T<=1000000000)(g:Γ w.B<=1000000000)(e:Γ w.U<=1000000000)(R:Ja)
  (h:∀S vT vB vU NT NB NU,OwnQ S w vT vB vU NT NB NU->R (.agg (I0 w vT vB vU)) S):Jb 48 [.agg (zo w)] Store.empty R:=by
 refine Qy 16 func48 ?_;refine Qc zb ybf ?_;refine⟨nu w.G f _ _ (λvT NT b _=>⟨Qe,?_⟩),O⟩;refine⟨dc w.B g _ _ (λvB NB c n=>⟨Qe,?_⟩),O⟩;refine⟨ytb w.U e _ _ (λvU NU a l=>⟨Qe,?_⟩),O⟩;have d:OwnQ (NU.un (NB.un NT)) w vT vB vU NT NB NU:=⟨rfl,b,c,a,n,l⟩
 obtain⟨_,_,k,_⟩:=b.form;obtain⟨_,_,j,_⟩:=c.form;obtain⟨_,_,i,_⟩:=a.form;subst k j i;refine Qbw ?_;refine Qbw ?_;refine Qbw ?_;exact ret (h _ _ _ _ _ _ _ d)
def ykt{S:Store}(h:OwnQ S w vT vB vU NT NB NU):RowsQ 1 u8C S vT w.G.T/\RowsQ 6 zk S vB w.B/\RowsQ 10 zf S vU w.U:=by have b:=h.rT;have a:=h.rB.unL h.dB;rw[h.e];exact⟨(b.un).un,a.un,h.rU.unL h.dU⟩
def lk{g:Store}(h:OwnQ g w vT vB vU NT NB NU){f M:BB}{W:World}(sto:StoreOK g f M W){x:Value}(a:VRel W (λb o=>M b o\/f b o) (.agg (I0 w vT vB vU)) x):
  VRel W (λb o=>(M b o\/f b o)/\g.obj b=Θ) (.agg (zo w)) x:=by
 obtain⟨l,n,k⟩:=ykt h;cases a with
 |agg _ c j e=>
  refine .agg _ c j λi x y a d=>?_
  match i with
  |0=>simp only[zo,Fam,Fak]at a;subst a;exact qq (e 0 _ y rfl d)
  |1=>simp only[zo,Fap,Fam,Fak]at a;subst a;exact qq (e 1 _ y rfl d)
  |2=>simp only[zo,Fap,Fam,Fak]at a;subst a;exact qq (e 2 _ y rfl d)
  |3=>simp only[zo,Fap,Fam,Fak]at a;subst a;exact qq (e 3 _ y rfl d)
  |4=>simp only[zo,Fap,Fam,Fak]at a;subst a;exact qq (e 4 _ y rfl d)
  |5=>simp only[zo,Fap,Fam,Fak]at a;subst a;exact l.borrow Vb fk sto (e 5 _ y rfl d)
  |6=>simp only[zo,Fap,Fam,Fak]at a;subst a;exact n.borrow kr Sj sto (e 6 _ y rfl d)
  |7=>simp only[zo,Fap,Fam,Fak]at a;subst a;exact k.borrow yx fi sto (e 7 _ y rfl d)
  |i+8=>simp[zo]at a
def Lv{a b:Store}{i:Nat}(h:(a.un b).obj i=Θ):a.obj i=Θ/\b.obj i=Θ:=by
 unfold Store.un at h;dsimp only at h;cases c:b.obj i with
 |none=>rw[c]at h;exact⟨h,rfl⟩
 |some y=>rw[c]at h;cases h
def zcl(w:Wld)(L:Γ w.G.T<=1000000000)(Q:Γ w.B<=1000000000)(K:Γ w.U<=1000000000)(R:Ja)
  (h:∀v N,RowsQ 10 zf N v w.U->R (.agg (zy w v)) N):Jb 48 [.agg (zo w)] Store.empty R:=by
 refine(lj w L Q K (λr S=>∃vT vB vU NT NB NU,OwnQ S w vT vB vU NT NB NU/\r=.agg (I0 w vT vB vU)) λS vT vB vU NT NB NU f=>⟨vT,vB,vU,NT,NB,NU,f,rfl⟩).frozenTo ?_;rintro r S ⟨vT,vB,vU,NT,NB,NU,f,rfl⟩;have I:∃k:Store,RowsQ 10 zf k vU w.U/\(∀b x,k.obj b=Δ x->NU.obj b=Δ x)/\(∀b x,k.tok b≠Δ x):=by refine⟨⟨NU.obj,λ_=>Θ⟩,f.rU.sub λ_ _ _ _=>rfl,λb x d=>d,λb x=>φ⟩
 obtain⟨k,P,n,t⟩:=I;refine⟨.agg (zy w vU),k,h vU k P,λb x d=>?_,t,λg M W v sto d=>?_⟩
 .rw[f.e];exact yf f.dU (n b x d)
 .cases d with
  |agg _ c H p=>
   have mono1:∀{x:AV} {v:Value},VRel W (λb o=>M b o\/g b o) x v->VRel W (λb o=>(M b o\/g b o)/\(S.obj b=Θ\/k.obj b≠Θ)) x v:=λh=>h.mono λ_ _ h=>h.1;have mono2:∀{x:AV} {v:Value} {a:Store},(∀b,k.obj b≠Θ->a.obj b=Θ)->(∀b,S.obj b=Θ->a.obj b=Θ)->VRel W (λb o=>(M b o\/g b o)/\a.obj b=Θ) x v->VRel W (λb o=>(M b o\/g b o)/\(S.obj b=Θ\/k.obj b≠Θ)) x v:=λC A h=>h.mono λb _ h=>⟨h.1,h.2.elim (A b) (C b)⟩
   have E:∀b,S.obj b=Θ->NU.obj b=Θ/\NB.obj b=Θ/\NT.obj b=Θ:=λb j=>by rw[f.e]at j;obtain⟨D,z⟩:=Lv j;exact⟨D,(Lv z).1,(Lv z).2⟩
   have u:∀b,k.obj b≠Θ->NB.obj b=Θ/\NT.obj b=Θ:=λb j=>by
    cases d:k.obj b with
    |none=>exact absurd d j
    |some y=>
     have D:=xk (n b y d);have z:=jt (f.dU b D);exact⟨(Lv z.1).1,(Lv z.1).2⟩
   have sNB:StoreOK NB g M W:=sto.weaken ⟨λb x d=>by rw[f.e];exact zh (yf f.dB d),λb x d=>by rw[f.e];exact H2 (Lh f.dB d)⟩;have sNT:StoreOK NT g M W:=sto.weaken ⟨λb x d=>by rw[f.e];exact zh (zh d),λb x d=>by rw[f.e];exact H2 (H2 d)⟩;refine .agg _ c H λi x y d l=>?_
   match i with
   |0=>simp only[zy,Fam,Fak]at d;subst d;exact mono1 (p 0 _ y rfl l)
   |1=>simp only[zy,Fap,Fam,Fak]at d;subst d;exact mono1 (p 1 _ y rfl l)
   |2=>simp only[zy,Fap,Fam,Fak]at d;subst d;exact mono1 (p 2 _ y rfl l)
   |3=>simp only[zy,Fap,Fam,Fak]at d;subst d;exact mono1 (p 3 _ y rfl l)
   |4=>simp only[zy,Fap,Fam,Fak]at d;subst d;exact mono1 (p 4 _ y rfl l)
   |5=>simp only[zy,Fap,Fam,Fak]at d;subst d;exact mono2 (λb j=>(u b j).2) (λb j=>(E b j).2.2) (f.rT.borrow Vb fk sNT (p 5 _ y rfl l))
   |6=>simp only[zy,Fap,Fam,Fak]at d;subst d;exact mono2 (λb j=>(u b j).1) (λb j=>(E b j).2.1) (f.rB.borrow kr Sj sNB (p 6 _ y rfl l))
   |7=>simp only[zy,Fap,Fam,Fak]at d;subst d;exact mono1 (p 7 _ y rfl l)
   |i+8=>simp[zy]at d
end
def ze2(g:Gnd)(n:Γ g.T<=1000000000)(b:Store)(R:Ja)(h:R (.agg (zq g)) b):Jb 69 [.agg (zq g)] b R:=by
 refine Gn (Q:=λr=>r=.agg (zq g)) ((nu g n Store.empty (λr S=>∃v,RowsQ 1 u8C S v g.T/\r=.agg [int g.W,int g.H,v]) (λv N e p=>⟨v,by exact e,rfl⟩)).frozen ?_) b R λr k=>k▸h;rintro r S ⟨v,e,rfl⟩;refine⟨_,rfl,λo M W x sto j=>?_⟩;cases j with
 |agg _ c l f=>
  refine .agg _ c l λi y z a d=>?_
  match i with
  |0=>simp only[zq,Fam,Fak]at a;subst a;exact qq (f 0 _ z rfl d)
  |1=>simp only[zq,Fap,Fam,Fak]at a;subst a;exact qq (f 1 _ z rfl d)
  |2=>simp only[zq,Fap,Fam,Fak]at a;subst a;exact e.borrow Vb fk sto (f 2 _ z rfl d)
  |i+3=>simp[zq]at a
def zg1(l:List Bld)(e:Γ l<=1000000000)(a:Store)(R:Ja)(h:R (lst 6 zk l) a):Jb 112 [lst 6 zk l] a R:=by refine Gn (Q:=λr=>r=lst 6 zk l) ((dc l e Store.empty (λr S=>RowsQ 6 zk S r l) (λv N b g=>by exact b)).frozen ?_) a R λr d=>d▸h;rintro r S b;exact⟨_,rfl,λf M W x sto c=>b.borrow kr Sj sto c⟩
def yq6(a b:List Bld)(t:Γ a<=1000000000000)(st:Store)(R:Ja)(h:∀z:Bool,(z=true->a=b)->R (V.bool z) st):Jb 298 [lst 6 zk a,lst 6 zk b] st R:=by
 refine Qy 26 func298 ?_;refine zg (λl=>?_) (λl=>?_)
 .exact ret (h false (λe=>by cases e))
 .have hl:Γ a=Γ b:=cj l;refine AWp.loop (σ:=Nat) ⟨λi=>[(0,.av (lst 6 zk a)),(1,.av (lst 6 zk b)),(12,.av (int ((rws zk a).length))),(13,.av (int (i)))],λ_=>[],λi f=>i<=Γ a/\a.take i=b.take i/\f=st,λi=>Γ a-i⟩ zb ?_ ?_
  .exact⟨0,O,⟨Fae _,rfl,rfl⟩,Qbt,O⟩
  .rintro i f ⟨p,d,rfl⟩;refine zg (λk=>?_) (λk=>?_)
   .have c:i<Γ a:=ql k;have hltb:i<Γ b:=Z;refine Qc zb ycw ?_;refine⟨i,rfl,J _ (zm c) ?_⟩;refine⟨i,rfl,J _ (zm hltb) ?_⟩;refine zg (λg=>?_) (λg=>?_)
    .exact ret (h false (λe=>by cases e))
    .refine Qd ?_;refine⟨i+1,?_,⟨c,?_,rfl⟩,Qbt,O⟩
     .show Γ a-(i+1)<Γ a-i;omega
     .rw[Fab c,Fab hltb,d];have:a[i]=b[i]:=by cases o:a[i];cases n:b[i];rw[o,n]at g;simp at g;simp[g]
      rw[this]
   .have j:i=Γ a:=qr k p;subst j;refine ret (h true (λ_=>?_));rw[Fal,hl,Fal]at d;exact d
def yq5(a b:List UInt8)(o:Γ a<=1000000000000)(st:Store)(R:Ja)(h:∀z:Bool,(z=true->a=b)->R (V.bool z) st):Jb 299 [lst 1 u8C a,lst 1 u8C b] st R:=by
 refine Qy 26 func299 ?_;refine zg (λl=>?_) (λl=>?_)
 .exact ret (h false (λe=>by cases e))
 .have hl:Γ a=Γ b:=cj l;refine AWp.loop (σ:=Nat) ⟨λi=>[(0,.av (lst 1 u8C a)),(1,.av (lst 1 u8C b)),(12,.av (int ((rws u8C a).length))),(13,.av (int (i)))],λ_=>[],λi f=>i<=Γ a/\a.take i=b.take i/\f=st,λi=>Γ a-i⟩ zb ?_ ?_
  .exact⟨0,O,⟨Fae _,rfl,rfl⟩,Qbt,O⟩
  .rintro i f ⟨n,d,rfl⟩;refine zg (λj=>?_) (λj=>?_)
   .have c:i<Γ a:=ql j;have hltb:i<Γ b:=Z;refine Qc zb ycv ?_;refine⟨i,rfl,J _ (zm c) ?_⟩;refine⟨i,rfl,J _ (zm hltb) ?_⟩;refine zg (λk=>?_) (λk=>?_)
    .exact ret (h false (λe=>by cases e))
    .refine Qd ?_;refine⟨i+1,?_,⟨c,?_,rfl⟩,Qbt,O⟩
     .show Γ a-(i+1)<Γ a-i;omega
     .rw[Fab c,Fab hltb,d];have:a[i]=b[i]:=UInt8.toNat_inj.1 (by have:=k;simp at this;omega);rw[this]
   .have g:i=Γ a:=qr j n;subst g;refine ret (h true (λ_=>?_));rw[Fal,hl,Fal]at d;exact d
def ytd{N:Store}{v:AV}{c:List Int}(l:Ints N v c)(D:Γ c<=1000000)(R:Ja)
  (i:c=[]->∀a,M9 a->R (.s (.slice a 0 0)) N)
  (B:∀b d L,Fresh N b->Γ c<=d->d<=Γ c+Γ L->d<=9223372036854775807->R (.s (.slice (Δ ⟨b,0,Θ⟩) (Γ c) d)) (N.sO b (.cells (c.map aI++L)))):
  Jb 222 [v] N R:=by
 rcases l with⟨rfl,rfl⟩|⟨b,d,L,rfl,hb,t,p,n⟩
 .refine Qy 8 func222 ?_;exact ret (i rfl Θ (λ_ h=>ω))
 .refine Qy 8 func222 ?_;have g:N.obj b=Δ (.cells (c.map aI++L)):=hb;have f:((c.map aI++L).drop 0).take (Γ c*1)=c.map aI:=φ;have hsrc:=SrcOK.obj (P:=Tryz.prog) (k:=1) (m:=Γ c) (o:=0) (cp:=d) g φ (by
   rw[f];intro y j;obtain⟨z,_,rfl⟩:=Fag.1 j;rfl)
  rw[f]at hsrc;refine⟨ψ,?_⟩;refine⟨.inr ⟨_,_,rfl,rfl,yuo rfl hsrc ⟨by show Γ c*8<=_;omega,Z⟩ (λhm a u=>?_) (λhm C e hf A w=>?_)⟩⟩
  .exact ret (i (Fa2 hm) a u)
  .exact ret (B C e _ hf A (by rw[Fbh];show e<=Γ c+(e-Γ c)*1;omega) w)
def W8(n:Int):(zx n).length=1:=rfl
def nf(n:Int):∀y∈zx n,∃x,y=AV.s x/\xq x=true:=by intro y a;simp[zx]at a;exact⟨_,a,rfl⟩
theorem ymn(a:List Int):(rws zx a).flatten=a.map aI:=by
 induction a with
 |nil=>rfl
 |cons k l b=>
  show zx k++(rws zx l).flatten=aI k::l.map aI;rw[b];rfl
def ym9{N:Store}{c:Nat}{room:Int}{C:List (Int×Int)}{f:List Int}(H:qx N c room C f)(T:Γ f<=1000000)(R:Ja)
  (h:∀Q,qx Q c room C f->R (yq f) Q):Jb 508 [ptr c] N R:=by
 have key:Jb 508 [ptr c] N λr S=>(f=[]/\(∃a,M9 a/\r=.s (.slice a 0 0))/\S=N)\/∃b d L,Fresh N b/\Γ f<=d/\d<=Γ f+Γ L/\d<=9223372036854775807/\r=.s (.slice (Δ ⟨b,0,Θ⟩) (Γ f) d)/\S=N.sO b (.cells (f.map aI++L)):=by
  obtain⟨m,v,E,e,P,u,k,t,j,K,I⟩:=H;refine Qy 8 func508 ?_;refine J _ k ?_;refine ytd j T _ (λe a B=>?_) (λb d L hf k t j=>?_)
  .exact ret (.inl ⟨e,⟨a,B,rfl⟩,rfl⟩)
  .exact ret (.inr ⟨b,d,L,hf,k,t,j,rfl,rfl⟩)
 have p:qx N.objs c room C f:=by obtain⟨m,v,E,e,P,u,k,t,j,K,I⟩:=H;exact⟨m,v,E,e,P,u,k,t,j,K,I⟩
 refine key.frozenTo ?_;rintro r S (⟨e,⟨a,B,D⟩,G⟩|⟨b,d,L,hf,k,t,j,D,G⟩)<;>subst D G
 .subst e;refine⟨_,_,h _ p,λb x hx=>hx,λb x hx=>θc,λl M W v sto hx=>?_⟩;have A:RowsQ 1 zx Store.empty (.s (.slice a 0 0)) []:=.inr ⟨a,B,rfl,rfl⟩;have sE:StoreOK Store.empty l M W:=sto.weaken ⟨λi y g=>(by cases g),λi y g=>(by cases g)⟩;refine(A.borrow W8 nf sE hx).mono λi o w=>⟨w.1,?_⟩
  rfl
 .refine⟨_,_,h _ p,λi x hx=>?_,λb x hx=>θc,λl M W v sto hx=>?_⟩
  .have:i≠b:=λe=>by
    rw[e]at hx;exact absurd (hx.symm.trans hf.1) φ
   rw[zi this];exact hx
  .have A:RowsQ 1 zx (Store.empty.sO b (.cells (f.map aI++L))) (.s (.slice (Δ ⟨b,0,Θ⟩) (Γ f) d)) f:=.inl (.inr ⟨b,d,L,rfl,by rw[ymn];exact zd _ _ _,k,Z,j⟩);have sE:StoreOK (Store.empty.sO b (.cells (f.map aI++L))) l M W:=by
    refine sto.weaken ⟨λi y g=>?_,λi y g=>by cases g⟩;by_cases n:i=b
    .subst n;rw[zd]at g⊢;exact g
    .have z:(Store.empty.sO b (AObj.cells (f.map aI++L))).obj i=Θ:=(zi n).trans rfl;rw[z]at g;cases g
   refine(A.borrow W8 nf sE hx).mono λi o w=>⟨w.1,?_⟩
   by_cases n:i=b
   .subst n;rcases w.2 with e|e
    .rw[zd]at e;cases e
    .exact absurd hf.1 e
   .exact(zi n).trans rfl
section
variable {a N N' Nc Nr S:Store} {key room k:Int} {fb:Nat} {a1 x0 x1 x2 x3 y0 y1 a9 a0:AV}
def Qak{p:Prop}(h:p:=by trivial):p:=h
def Qal{p:Prop}(h:p:=by rw[z8,ym];rfl):p:=h
abbrev mapA(m:Nat):AV:=.s (.map (Δ m))
def keepsB(b:List Nat)(N N':Store):Prop:=∀i y,i∉b->N.obj i=Δ y->N'.obj i=Δ y
def keepsB.refl(b:List Nat)(N:Store):keepsB b N N:=λ_ _ _ h=>h
theorem keepsB.trans{d:List Nat}{b c:Store}(h:keepsB d a b)(g:keepsB d b c):keepsB d a c:=λi y e f=>g i y e (h i y e f)
def keepsB.set{c:List Nat}{b:Store}(h:keepsB c a b){p:Nat}{x:AObj}(g:p∈c\/a.obj p=Θ):keepsB c a (b.sO p x):=λi y f d=>by have:i≠p:=λe=>δ;rw[zi this];exact h i y f d
def Av(c s:Int)(b:Nat):Int:=(4*c+s)*128*128+b
noncomputable abbrev wayL(g:Gnd)(l:List Bld)(c s:Int)(goal:Nat):List AV:=il (Γ g.T) (xe g (zn g l c s) c (jc g (zn g l c s) c goal))
def Hx(c:Int):Prop:=c=0\/c=1\/c=2
def NetOK(g:Gnd)(l:List Bld)(f:List Nat)(N:Store)(key:Int)(b:Nat):Prop:=
 b∉f/\∃s d c e,N.obj b=Δ (.cells [u32A 1,i32A 0,s,ptr d])/\d∉f/\Hx c/\(0<=e/\e<=3)/\key=4*c+e/\N.obj d=Δ (.cells (jl g l c e))
def WayOK(g:Gnd)(l:List Bld)(h:List Nat)(N:Store)(key:Int)(b:Nat):Prop:=
 b∉h/\∃s d c f e,N.obj b=Δ (.cells [u32A 1,i32A 0,s,.s (.slice (Δ ⟨d,0,Θ⟩) (Γ g.T) (Γ g.T))])/\d∉h/\Hx c/\(0<=f/\f<=3)/\e<Γ g.T/\key=Av c f e/\N.obj d=Δ (.cells (wayL g l c f e))
theorem NetOK.keep{g:Gnd}{l:List Bld}{j e:List Nat}{b:Nat}(h:NetOK g l j N key b)(n:keepsB j N N')(o:∀i,i∈e->i∈j\/N.obj i=Θ):NetOK g l e N' key b:=by obtain⟨v,s,d,c,w,u,t,A,z,y,p⟩:=h;exact⟨λf=>(o b f).elim v λq=>(by rw[u]at q;cases q),s,d,c,w,n b _ v u,λf=>(o d f).elim t λq=>(by rw[p]at q;cases q),A,z,y,n d _ t p⟩
theorem WayOK.keep{g:Gnd}{l:List Bld}{n f:List Nat}{b:Nat}(h:WayOK g l n N key b)(o:keepsB n N N')(p:∀i,i∈f->i∈n\/N.obj i=Θ):WayOK g l f N' key b:=by obtain⟨w,s,d,c,y,e,v,u,C,B,A,z,t⟩:=h;exact⟨λj=>(p b j).elim w λq=>(by rw[v]at q;cases q),s,d,c,y,e,o b _ w v,λj=>(p d j).elim u λq=>(by rw[t]at q;cases q),C,B,A,z,o d _ u t⟩
structure FldB(fb:Nat)(room:Int)(g:Gnd)(l:List Bld)(k:Int)(Nc Nr:Store)(c nm wm:Nat)(cs:List (Int×Int))(ks:List Int)(ns ws:List (Int×Nat))(made cnt:Int):Prop where
 dj:zl Nc Nr
 hC:qx Nc c room cs ks
 hf:Nr.obj fb=Δ (.cells [ptr c,int made,V.bool true,int g.W,int g.H,yn g.T,lst 6 zk l,mapA nm,mapA wm,int cnt])
 hn:∃bs clk,Nr.obj nm=Δ (.map (ns.map (qa λb=>ptr b)) bs clk)
 hw:∃bs clk,Nr.obj wm=Δ (.map (ws.map (qa λb=>ptr b)) bs clk)
 d1:fb≠nm
 d2:fb≠wm
 d3:nm≠wm
 r:1<=room/\room<=4096
 n0:0<=cnt/\cnt<=k
 sz:Γ g.T<=1000000/\Γ l<=1000000
structure FldI(fb:Nat)(room:Int)(g:Gnd)(l:List Bld)(k:Int)(Nc Nr:Store)(c nm wm:Nat)(cs:List (Int×Int))(ks:List Int)(ns ws:List (Int×Nat))(made cnt:Int):Prop where
 b:FldB fb room g l k Nc Nr c nm wm cs ks ns ws made cnt
 nets:∀key b,qe ns key=Δ b->NetOK g l [fb,nm,wm] Nr key b
 ways:CI (WayOK g l [fb,nm,wm] Nr) room cs ks ws cnt
def FldAny(fb:Nat)(room k:Int)(N:Store):Prop:=
 (∃g l Nc Nr c n i f e j h b d,N=Nc.un Nr/\FldI fb room g l k Nc Nr c n i f e j h b d)∨
 (∃Nc Nr c f e b d x0 x1 x2 x3 y0 y1,N=Nc.un Nr/\zl Nc Nr/\qx Nc c room f e/\(1<=room/\room<=4096)/\(0<=d/\d<=k)/\Nr.obj fb=Δ (.cells [ptr c,int b,V.bool false,x0,x1,x2,x3,y0,y1,int d]))
def ytk{c:Nat}{f:List (Int×Int)}{b:List Int}(d:zl Nc Nr)(e:qx Nc c room f b)(R:Ja)(h:∀N',zl N' Nr->qx N' c room [] []->R (.tup []) (N'.un Nr)):Jb 177 [ptr c] (Nc.un Nr) R:=by refine ACalls.frame d (yts e (λr S=>r=.tup []/\qx S c room [] []) (λN' h=>⟨rfl,h⟩)) ?_;grind
def ze7{c:Nat}{b:List (Int×Int)}{d:List Int}(g:zl Nc Nr)(i:qx Nc c room b d)(f:Γ d<=1000000)(k:Int)(R:Ja)
  (l:qe b k=Θ->∀N',zl N' Nr->qx N' c room b d->R (.tup [int 0,V.bool false]) (N'.un Nr))
  (j:∀v,qe b k=Δ v->∀N',zl N' Nr->qx N' c room b (k::d.erase k)->R (.tup [int v,V.bool true]) (N'.un Nr)):Jb 501 [ptr c,int k] (Nc.un Nr) R:=by
 refine ACalls.frame g (yto i f k (λr S=>(qe b k=Θ/\r=.tup [int 0,V.bool false]/\qx S c room b d)\/∃v,qe b k=Δ v/\r=.tup [int v,V.bool true]/\qx S c room b (k::d.erase k)) (λe N' h=>.inl ⟨e,rfl,h⟩) (λv e N' h=>.inr ⟨v,e,rfl,h⟩)) ?_;grind
def ykg{c:Nat}{d:List (Int×Int)}{b:List Int}(g:zl Nc Nr)(i:qx Nc c room d b)(f:Γ b<=100000)(k x:Int)(R:Ja)
  (l:((k::b.erase k).length:Int)<=room->∀N',zl N' Nr->qx N' c room (yz d k x) (k::b.erase k)->R (.tup []) (N'.un Nr))
  (j:room<((k::b.erase k).length:Int)->∀N',zl N' Nr->qx N' c room ((yz d k x).eraseP λe=>(k::b.erase k).getLastD 0==e.1) (k::b.erase k).dropLast->R (.tup []) (N'.un Nr)):Jb 502 [ptr c,int k,int x] (Nc.un Nr) R:=by
 refine ACalls.frame g (ysi i f k x (λr S=>r=.tup []/\((((k::b.erase k).length)<=room/\qx S c room (yz d k x) (k::b.erase k))\/(room<((k::b.erase k).length)/\qx S c room ((yz d k x).eraseP λe=>(k::b.erase k).getLastD 0==e.1) (k::b.erase k).dropLast))) (λe N' h=>⟨rfl,.inl ⟨e,h⟩⟩) (λe N' h=>⟨rfl,.inr ⟨e,h⟩⟩)) ?_;grind
def yna{c:Nat}{d:List (Int×Int)}{b:List Int}(f:zl Nc Nr)(g:qx Nc c room d b)(e:Γ b<=1000000)(R:Ja)
  (h:∀N',zl N' Nr->qx N' c room d b->R (yq b) (N'.un Nr)):Jb 508 [ptr c] (Nc.un Nr) R:=by
 refine ACalls.frame f (ym9 g e (λr S=>r=yq b/\qx S c room d b) (λN' h=>⟨rfl,h⟩)) ?_;grind
def fresh_un{g:Store}{b:Nat}(h:Fresh (a.un g) b):Fresh a b/\Fresh g b:=by grind[fresh_iff,un_has]
def disj_setR{g:Store}(f:zl a g){b:Nat}{x:AObj}(h:¬a.has b):zl a (g.sO b x):=λi d c=>by
 rcases has_setObj_iff.1 c with e|c
 .exact h (e▸d)
 .exact f i d c
theorem Cu{g:Store}(d:zl a g){b:Nat}{x:AObj}(h:g.obj b=Δ x):¬a.has b:=λc=>d b c (xk h)
def od{c:Nat}{L:List (Int×Int)}{E:List Int}(I:zl Nc Nr)(K:qx Nc c room L E){a2:AV}(hf:Nr.obj fb=Δ (.cells [ptr c,a1,a2,x0,x1,x2,x3,y0,y1,a9]))(R:Ja)
  (h:∀n f b d P H M G,zl n f->qx n c room [] []->f.obj fb=Δ (.cells [ptr c,a1,V.bool false,x0,x1,x2,x3,mapA b,mapA d,a9])->f.obj b=Δ (.map [] P H)->f.obj d=Δ (.map [] M G)->fb≠b->fb≠d->b≠d->R (.tup []) (n.un f)):
  Jb 106 [ptr fb] (Nc.un Nr) R:=by
 refine Qy 18 func106 ?_;refine J _ (zh hf) ?_;refine ytk I K _ (λg A B=>?_);refine Iy rfl (λb u=>?_);refine Iy rfl (λd p=>?_);have f1:=fresh_un u;rw[z8]at p⊢;have C:=fresh_un p;rw[z8];have l:fb≠b:=λe=>θ4;have o:d≠b:=λe=>by have:=C.2.1;rw[e,zd]at this;cases this
 have j:fb≠d:=λe=>by have:=C.2.1;grind[zi]
 have hb:((Nr.sO b (.map [] [] 0)).sO d (.map [] [] 0)).obj fb=Δ (.cells [ptr c,a1,a2,x0,x1,x2,x3,y0,y1,a9]):=(zi j).trans ((zi l).trans hf);have z:((Nr.sO b (.map [] [] 0)).sO d (.map [] [] 0)).obj b=Δ (.map [] [] 0):=(zi (Ne.symm o)).trans (zd _ _ _);have y:((Nr.sO b (.map [] [] 0)).sO d (.map [] [] 0)).obj d=Δ (.map [] [] 0):=zd _ _ _;have t:zl g ((Nr.sO b (.map [] [] 0)).sO d (.map [] [] 0)):=disj_setR (disj_setR A (fresh_iff.1 f1.1)) (fresh_iff.1 C.1);generalize(Nr.sO b (.map [] [] 0)).sO d (.map [] [] 0)=D at*;have w:=Cu t hb;refine yu (i:=ti4) (v:=V.bool false) rfl rfl rfl (zh hb) (show 3<=10 by decide) (z8 _ _ _ _) ?_;refine yu (i:=ti210) (v:=mapA b) (st2:=g.un (D.sO fb (.cells [ptr c,a1,V.bool false,x0,x1,x2,x3,mapA b,y1,a9]))) rfl rfl rfl (zh (zd _ _ _)) (show 8<=10 by decide) Qal ?_;refine yu (i:=ti211) (v:=mapA d) (st2:=g.un (D.sO fb (.cells [ptr c,a1,V.bool false,x0,x1,x2,x3,mapA b,mapA d,a9]))) rfl rfl rfl (zh (zd _ _ _)) (show 9<=10 by decide) Qal ?_;exact ret (h g _ b d [] 0 [] 0 (disj_setR t w) B (zd _ _ _) ((zi (Ne.symm l)).trans z) ((zi (Ne.symm j)).trans y) l j (Ne.symm o))
def ygd(hf:S.obj fb=Δ (.cells [a0,a1,V.bool false,x0,x1,x2,x3,y0,y1,a9]))(g:Gnd)(l:List Bld)(R:Ja)(h:R (V.bool false) S):
  Jb 201 [ptr fb,.agg (zq g),lst 6 zk l] S R:=by
 refine Qy 49 func201 ?_;refine Qc zb zaq ?_;refine Qby ?_;refine⟨⟨Qak,?_⟩,O⟩;refine⟨⟨Qak,?_⟩,O⟩;refine⟨⟨Qak,?_⟩,O⟩;exact ret h
def ygc(b:Gnd)(c:List Bld)(j:Γ b.T<=1000000000000)(hl:Γ c<=1000000000000)(hf:S.obj fb=Δ (.cells [a0,a1,V.bool true,int b.W,int b.H,yn b.T,lst 6 zk c,y0,y1,a9]))(g:Gnd)(l:List Bld)(R:Ja)(h:∀z:Bool,(z=true->b=g/\c=l)->R (V.bool z) S):
  Jb 201 [ptr fb,.agg (zq g),lst 6 zk l] S R:=by
 refine Qy 49 func201 ?_;refine Qc zb zaq ?_;refine Qby ?_;refine Qby ?_;refine zp (λo=>?_) (λo=>?_);rotate_left
 .refine⟨⟨Qak,?_⟩,O⟩;refine⟨⟨Qak,?_⟩,O⟩;refine⟨⟨Qak,?_⟩,O⟩;exact ret (h false (λe=>by cases e))
 refine Qby ?_;refine zp (λn=>?_) (λn=>?_);rotate_left
 .refine⟨⟨Qak,?_⟩,O⟩;refine⟨⟨Qak,?_⟩,O⟩;refine⟨⟨Qak,?_⟩,O⟩;exact ret (h false (λe=>by cases e))
 refine Qby ?_;refine⟨yq6 c l hl _ _ (λz i=>⟨Qak,?_⟩),O⟩;cases z with
 |false=>
  refine⟨⟨Qak,?_⟩,O⟩;refine⟨⟨Qak,?_⟩,O⟩;exact ret (h false (λe=>by cases e))
 |true=>
  refine Qby ?_;refine⟨yq5 b.T g.T j _ _ (λd f=>⟨Qak,?_⟩),O⟩;refine⟨⟨Qak,?_⟩,O⟩;refine ret (h d (λe=>⟨?_,i rfl⟩));cases b;simp_all
def FldAny.mono{i:Int}(h:FldAny fb room k N)(z:k<=i):FldAny fb room i N:=by
 rcases h with⟨g,l,Nc,Nr,c,p,n,f,d,o,j,made,cnt,e,h⟩|⟨Nc,Nr,c,f,d,made,cnt,x0,x1,x2,x3,y0,y1,e,y,w,v,u,t⟩
 .exact .inl ⟨g,l,Nc,Nr,c,p,n,f,d,o,j,made,cnt,e,⟨⟨h.b.dj,h.b.hC,h.b.hf,h.b.hn,h.b.hw,h.b.d1,h.b.d2,h.b.d3,h.b.r,⟨h.b.n0.1,by have:=h.b.n0;omega⟩,h.b.sz⟩,h.nets,h.ways⟩⟩
 .exact .inr ⟨Nc,Nr,c,f,d,made,cnt,x0,x1,x2,x3,y0,y1,e,y,w,v,⟨u.1,Z⟩,t⟩
def yla(hF:FldAny fb room k N)(g:Gnd)(hT:Γ g.T<=1000000)(l:List Bld)(hl:Γ l<=1000000)(R:Ja)
  (h:∀Nc Nr c M K G E L I d e,FldI fb room g l k Nc Nr c M K G E L I d e->R (.tup []) (Nc.un Nr)):Jb 124 [ptr fb,.agg (zq g),lst 6 zk l] N R:=by
 rcases hF with⟨p,D,Nc,Nr,c,M,K,G,E,L,I,d,e,rfl,t⟩|⟨Nc,Nr,c,G,E,d,e,x0,x1,x2,x3,y0,y1,rfl,h1,h2,h3,h4,h5⟩
 .have ε:=t.b.sz;refine Qy 25 func124 ?_;refine ygc p D Z Z (zh t.b.hf) g l _ (λz hz=>?_);cases z with
  |true=>
   obtain⟨rfl,rfl⟩:=hz rfl;exact ret (h Nc Nr c M K G E L I d e t)
  |false=>
   refine od t.b.dj t.b.hC t.b.hf _ (λn u j f b1 Q b2 P C d2 B d4 X A y U=>?_);refine ze2 g Z _ _ ?_;refine zg1 l Z _ _ ?_;have w:=Cu C B;refine yu (i:=ti4) (v:=V.bool true) (b:=fb) (o:=2) (l:=[ptr c,int d,V.bool false,int p.W,int p.H,yn p.T,lst 6 zk D,mapA j,mapA f,int e]) (st2:=n.un (u.sO fb (.cells [ptr c,int d,V.bool true,int p.W,int p.H,yn p.T,lst 6 zk D,mapA j,mapA f,int e]))) rfl rfl rfl (zh B) (show 3<=10 by decide) (z8 _ _ _ _) ?_;refine kh (i:=ti23) (v:=.agg (zq g)) (xs:=zq g) (b:=fb) (o:=3) (l:=[ptr c,int d,V.bool true,int p.W,int p.H,yn p.T,lst 6 zk D,mapA j,mapA f,int e]) rfl rfl rfl (zh (zd _ _ _)) (show 6<=10 by decide) ?_;rw[z8,ym];refine yu (i:=ti25) (v:=lst 6 zk l) (st2:=n.un (u.sO fb (.cells [ptr c,int d,V.bool true,int g.W,int g.H,yn g.T,lst 6 zk l,mapA j,mapA f,int e]))) rfl rfl rfl (zh (zd _ _ _)) (show 7<=10 by decide) Qal ?_;exact ret (h n _ c j f [] [] [] [] d e ⟨⟨disj_setR C w,d2,zd _ _ _,⟨b1,Q,(zi (Ne.symm A)).trans d4⟩,⟨b2,P,(zi (Ne.symm y)).trans X⟩,A,y,U,t.b.r,t.b.n0,⟨hT,hl⟩⟩,λkey b hb=>(by cases hb),CI.nil _ (by have:=t.b.r.1;omega) e⟩)
 .refine Qy 25 func124 ?_;refine ygd (zh h5) g l _ ?_;refine od h1 h2 h5 _ (λn u j f b1 Q b2 P C d2 B d4 X A y U=>?_);refine ze2 g Z _ _ ?_;refine zg1 l Z _ _ ?_;have w:=Cu C B;refine yu (i:=ti4) (v:=V.bool true) rfl rfl rfl (zh B) (show 3<=10 by decide) (z8 _ _ _ _) ?_;refine kh (i:=ti23) (v:=.agg (zq g)) rfl rfl rfl (zh (zd _ _ _)) (show 6<=10 by decide) ?_;rw[z8,ym];refine yu (i:=ti25) (v:=lst 6 zk l) (st2:=n.un (u.sO fb (.cells [ptr c,int d,V.bool true,int g.W,int g.H,yn g.T,lst 6 zk l,mapA j,mapA f,int e]))) rfl rfl rfl (zh (zd _ _ _)) (show 7<=10 by decide) Qal ?_;exact ret (h n _ c j f [] [] [] [] d e ⟨⟨disj_setR C w,d2,zd _ _ _,⟨b1,Q,(zi (Ne.symm A)).trans d4⟩,⟨b2,P,(zi (Ne.symm y)).trans X⟩,A,y,U,h3,h4,⟨hT,hl⟩⟩,λkey b hb=>(by cases hb),CI.nil _ Z e⟩)
end
section
variable {fb c nm wm p:Nat} {g:Gnd} {N B Nc Nr:Store} {room k made cnt:Int}
def ylp{S:Store}{t u n f b:Nat}{E D C A z y w a1 a2 a3:AV}{l:List Bld}(I:zt g)(hl:Γ l<=1000000)(hb:∀b∈l,yh b/\onP g b)(c s:Int)(hs:0<=s/\s<=3)
  (v:S.obj t=Δ (.cells [ptr fb])) (M:S.obj u=Δ (.cells [int c])) (L:S.obj n=Δ (.cells [int s])) (K:S.obj f=Δ (.cells [ptr b]))
  (hf:S.obj fb=Δ (.cells [E,D,C,int g.W,int g.H,yn g.T,lst 6 zk l,A,z,y])) (G:S.obj b=Δ (.cells [w,a1,a2,a3])) (R:Ja)
  (h:∀d,Fresh S d->R (.tup []) ((S.sO d (.cells (jl g l c s))).sO b (.cells [w,a1,a2,ptr d]))):Jb 126 [ptr t,ptr u,ptr n,ptr f] S R:=by
 refine Qy 18 func126 ?_;refine Qc zb yf7 ?_;refine Qby ?_;refine J _ v ?_;refine J _ hf ?_;refine J _ v ?_;refine J _ hf ?_;refine J _ M ?_;refine J _ L ?_;refine⟨yp1 g I l Z hb c s hs _ _ (λd a=>?_),O⟩;have i:(S.sO d (.cells (jl g l c s))).obj b=_:=(zi (λe=>by have:=a.1;grind)).trans G;have j:(S.sO d (.cells (jl g l c s))).obj f=_:=(zi (λe=>by have:=a.1;grind)).trans K;refine⟨⟨J (o:=(S.sO d (.cells (jl g l c s))).obj f) _ j rfl,O⟩,?_⟩;refine⟨?_,O⟩;refine J _ rfl (ju rfl (jr rfl rfl rfl rfl ?_));refine yu rfl rfl rfl i (show 4<=4 by decide) rfl ?_;refine⟨O,?_⟩;exact ret (h d a)
def zed(d:List Nat)(b:zl N B):keepsB d N (N.un B):=λi y _ a=>yf b a
def FldI.ext{l:List Bld}{y:List (Int×Int)}{o:List Int}{n j:List (Int×Nat)}(h:FldI fb room g l k Nc Nr c nm wm y o n j made cnt)(u:zl (Nc.un Nr) B):FldI fb room g l k Nc (Nr.un B) c nm wm y o n j made cnt:=by
 have e:zl Nr B:=λi d a=>u i (un_has.2 (.inr d)) a;have w:zl Nc B:=λi d a=>u i (un_has.2 (.inl d)) a;obtain⟨I,A,G⟩:=h.b.hn;obtain⟨H,z,E⟩:=h.b.hw;refine⟨⟨λi d a=>?_,h.b.hC,yf e h.b.hf,⟨I,A,yf e G⟩,⟨H,z,yf e E⟩,h.b.d1,h.b.d2,h.b.d3,h.b.r,h.b.n0,h.b.sz⟩,λkey b C=>(h.nets key b C).keep (zed _ e) (λi f=>.inl f),h.ways.ways λkey v b K t D=>⟨t,D.keep (zed _ e) (λi f=>.inl f)⟩⟩;rcases un_has.1 a with a|a
 .exact h.b.dj i d a
 .exact w i d a
def yk9(D:zl N B)(G:FldAny fb room k N)(g:Gnd)(E:Γ g.T<=1000000)(l:List Bld)(C:Γ l<=1000000)(R:Ja)
  (h:∀Nc Nr c nm wm o n f d made cnt,(∀i y,B.obj i=Δ y->Nr.obj i=Δ y/\i∉[fb,nm,wm])->FldI fb room g l k Nc Nr c nm wm o n f d made cnt->R (.tup []) (Nc.un Nr)):Jb 124 [ptr fb,.agg (zq g),lst 6 zk l] (N.un B) R:=by
 refine ACalls.frame D (yla G g E l C (λr S=>∃Nc Nr c nm wm o n f d made cnt,r=.tup []/\S=Nc.un Nr/\FldI fb room g l k Nc Nr c nm wm o n f d made cnt) (λNc Nr c nm wm o n f d made cnt t=>⟨Nc,Nr,c,nm,wm,o,n,f,d,made,cnt,rfl,rfl,t⟩)) ?_;rintro r Q ⟨Nc,Nr,c,nm,wm,o,n,f,d,made,cnt,rfl,rfl,t⟩ u;rw[O8];refine h Nc (Nr.un B) c nm wm o n f d made cnt (λi y w=>⟨zh w,λa=>?_⟩) (t.ext u);have v:∀{j:Nat} {z:AObj},Nr.obj j=Δ z->i≠j:=λA e=>u i (un_has.2 (.inr (e▸xk A))) (xk w);obtain⟨P,L,I⟩:=t.b.hn;obtain⟨M,K,H⟩:=t.b.hw;simp only[Fa7,Fcg,or_false]at a;rcases a with a|a|a
 .exact v t.b.hf a
 .exact v I a
 .exact v H a
theorem Vu(b:Nat)(x:AObj):N.sO b x=N.un (Store.empty.sO b x):=by have:=z8 N Store.empty b x;trivial
theorem FldI.box{l:List Bld}{f:List (Int×Int)}{d:List Int}{b a:List (Int×Nat)}(h:FldI fb room g l k Nc Nr c nm wm f d b a made cnt)(j:Fresh (Nc.un Nr) p)(x:AObj):FldI fb room g l k Nc (Nr.sO p x) c nm wm f d b a made cnt:=by
 rw[Vu p x];refine h.ext λi o n=>?_;rcases has_setObj_iff.1 n with e|e
 .exact fresh_iff.1 j (e▸o)
 .exact(e.elim (λh=>h rfl) (λh=>h rfl))
def keepsB.fresh{d:List Nat}{a b:Store}(h:keepsB d a b)(n:∀i,i∈d->b.obj i≠Θ)(e:b.obj p=Θ):p∉d/\a.obj p=Θ:=by
 have f:p∉d:=λl=>n p l e;refine⟨f,?_⟩;cases j:a.obj p with
 |none=>rfl
 |some y=>exact absurd (h p y f j) (by rw[e];simp)
def lw(hF:FldAny fb room k N)(g:Gnd)(hg:zt g)(hT:Γ g.T<=1000000)(l:List Bld)(hl:Γ l<=1000000)(S:∀b∈l,yh b/\onP g b)(c s:Int)(hc:Hx c)(hs:0<=s/\s<=3)(R:Ja)
  (h:∀Nc Nr cc nm wm cs ks C ws made cnt d,FldI fb room g l k Nc Nr cc nm wm cs ks C ws made cnt->d∉[fb,nm,wm]->Nr.obj d=Δ (.cells (jl g l c s))->R (ptr d) (Nc.un Nr)):
  Jb 62 [ptr fb,.agg (zq g),lst 6 zk l,int c,int s] N R:=by
 refine Qa (c:=cfg 50 [5,8,9,12,34] []) zb func62 ?_;intro t ε E η D P;have npc:t≠E:=λe=>by have:=η.1;grind[zd]
 have nps1:t≠D:=λe=>by have:=P.1;grind[zi,zd]
 have nps2:E≠D:=λe=>by have:=P.1;grind[zd]
 obtain⟨B,hB⟩:∃B:Store,B=((Store.empty.sO t (.cells [ptr fb])).sO E (.cells [int c])).sO D (.cells [int s]):=⟨_,rfl⟩
 have b1:B.obj t=Δ (.cells [ptr fb]):=by grind[zi,zd]
 have b2:B.obj E=Δ (.cells [int c]):=by grind[zi,zd]
 have b3:B.obj D=Δ (.cells [int s]):=by rw[hB];exact zd _ _ _
 have eS:((N.sO t (.cells [ptr fb])).sO E (.cells [int c])).sO D (.cells [int s])=N.un B:=by rw[hB,Vu t,z8,z8]
 have υ:zl N B:=by
  intro i h1 u;rw[hB]at u;rcases has_setObj_iff.1 u with u|u
  .grind[fresh_iff,has_setObj_iff]
  .rcases has_setObj_iff.1 u with u|u
   .grind[fresh_iff,has_setObj_iff]
   .rcases has_setObj_iff.1 u with u|u
    .exact fresh_iff.1 ε (u▸h1)
    .exact(u.elim (λh=>h rfl) (λh=>h rfl):False)
 have eS2:((N.sO t (AObj.cells [AV.s (Value.pointer (Δ {block:=fb,off:=0}))])).sO E (AObj.cells [AV.s (Value.int IntKind.i64 c)])).sO D (AObj.cells [AV.s (Value.int IntKind.i64 s)])=N.un B:=eS;rw[eS2];refine J (o:=(N.un B).obj t) _ (zh b1) ?_;refine yk9 υ hF g hT l hl _ (λNc Nr cc nm wm cs ks C ws made cnt L f=>?_);obtain⟨t1,o1⟩:=L _ _ b1;obtain⟨t2,o2⟩:=L _ _ b2;obtain⟨t3,o3⟩:=L _ _ b3;clear b1 b2 b3 L eS eS2 υ hB P η ε hF;have hcb:0<=c/\c<=2:=by unfold Hx at hc;omega
 refine J (o:=(Nc.un Nr).obj E) _ (zh t2) ?_;refine Qd ?_;refine J (o:=(Nc.un Nr).obj D) _ (zh t3) ?_;refine Qd ?_;refine J (o:=(Nc.un Nr).obj t) _ (zh t1) ?_;refine J (o:=(Nc.un Nr).obj fb) _ (zh f.b.hf) ?_;obtain⟨bs,clk,G⟩:=f.b.hn;refine Bi rfl (it:=ti210) (ie:=ti242) (ik:=ti2) rfl rfl rfl rfl (zh G) rfl (qA (4*c+s)) (λe I=>?_) ?_
 .obtain⟨e,_,rfl⟩:=Fag.1 I;rfl
 rw[Ie];cases ο:qe C (4*c+s)with
 |none=>
  refine J (o:=(Nc.un Nr).obj t) _ (zh t1) ?_;refine J (o:=(Nc.un Nr).obj fb) _ (zh f.b.hf) ?_;intro a τ;have f1:=fresh_un τ;rw[z8];have e1:nm≠a:=λe=>θ4;refine F6 (.inl rfl) rfl (it:=ti210) (ik:=ti2) rfl rfl rfl (zh ((zi e1).trans G)) rfl rfl (qA (4*c+s)) (λe I=>?_) (λe1 I hq=>?_) ?_
  .obtain⟨e,_,rfl⟩:=Fag.1 I;rfl
  .obtain⟨e,_,rfl⟩:=Fag.1 I;grind[qA,qa,int]
  obtain⟨V,A,M⟩:=L8 (λb=>ptr b) C bs clk (4*c+s) a;have hput2:Aa (List.map (qa λb=>ptr b) C) bs clk (qA (4*c+s)) (AV.s (Value.int IntKind.i64 (4*c+s))) (AV.s (Value.pointer (Δ {block:=a,off:=0})))=_:=M;rw[hput2,z8];have hfn:=f.b.d1;have hfw:=f.b.d2;have hnw:=f.b.d3;obtain⟨bw,kw,hwm⟩:=f.b.hw;have e2:fb≠a:=λe=>by have:=f1.2.1;rw[<-e,f.b.hf]at this;cases this
  have e3:wm≠a:=λe=>θ4;have e4:t≠a:=λe=>θ4;have e5:E≠a:=λe=>θ4;have e6:D≠a:=λe=>θ4;simp only[Fa7,Fcg,or_false,not_or]at o1 o2 o3;obtain⟨j,z⟩:∃j,j=(Nr.sO a (.cells [u32A 0,i32A 0,u32A 0,.s (.pointer Θ)])).sO nm (.map ((yz C (4*c+s) a).map (qa λb=>ptr b)) V A):=⟨_,rfl⟩
  have eN:Nc.un ((Nr.sO a (AObj.cells [AV.s (Value.int IntKind.u32 0),AV.s (Value.int IntKind.i32 0),AV.s (Value.int IntKind.u32 0),AV.s (Value.pointer Θ)])).sO nm (AObj.map (List.map (qa λb=>ptr b) (yz C (4*c+s) a)) V A))=Nc.un j:=by rw[z]
  rw[eN];have kN:keepsB [fb,nm,wm] Nr j:=by rw[z];exact((keepsB.refl _ _).set (.inr f1.2.1)).set (.inl φ)
  have v1:=kN t _ (by simp[o1]) t1;have v2:=kN E _ (by simp[o2]) t2;have v3:=kN D _ (by simp[o3]) t3;have v4:j.obj nm=Δ (.map ((yz C (4*c+s) a).map (qa λb=>ptr b)) V A):=by rw[z];exact zd _ _ _
  have v5:j.obj fb=Nr.obj fb:=by grind[zi]
  rw[f.b.hf]at v5;have v6:j.obj wm=Nr.obj wm:=by simp_all[zi,Ne.symm]
  rw[hwm]at v6;have v7:j.obj a=Δ (.cells [u32A 0,i32A 0,u32A 0,.s (.pointer Θ)]):=by simp_all[zi,Ne.symm,zd]
  have d2:zl Nc j:=by rw[z];exact disj_setR (disj_setR f.b.dj (fresh_iff.1 f1.1)) (Cu f.b.dj G)
  have n1:a∉[fb,nm,wm]:=δ;clear eN z M hput2 t1 t2 t3 τ;refine J (o:=(Nc.un j).obj t) _ (zh v1) ?_;refine J (o:=(Nc.un j).obj fb) _ (zh v5) ?_;refine Bi rfl (it:=ti210) (ie:=ti242) (ik:=ti2) rfl rfl rfl rfl (zh v4) rfl (qA (4*c+s)) (λe I=>?_) ?_
  .obtain⟨e,_,rfl⟩:=Fag.1 I;rfl
  rw[Ie,Dr,if_pos rfl];intro n w;have U:=fresh_un w;rw[z8];refine yu (i:=ti242) (v:=ptr a) (b:=n) (o:=0) (l:=[.s (.pointer Θ)]) (st2:=Nc.un (j.sO n (.cells [ptr a]))) rfl rfl rfl (zh (zd _ _ _)) (show 1<=1 by decide) (by rw[z8,ym];rfl) ?_;have fp:=kN.fresh δ U.2.1;have kp:∀{i:Nat} {y:AObj},j.obj i=Δ y->(j.sO n (.cells [ptr a])).obj i=Δ y:=λ{i y} hy=>(zi (λe=>by have:=U.2.1;grind)).trans hy;have w1:=kp v1;have w2:=kp v2;have w3:=kp v3;have w4:=kp v4;have w5:=kp v5;have w6:=kp v6;have w7:=kp v7;have W:(j.sO n (.cells [ptr a])).obj n=Δ (.cells [ptr a]):=zd _ _ _;have kN3:=kN.set (x:=.cells [ptr a]) (.inr fp.2);have d3:=disj_setR (x:=.cells [ptr a]) d2 (fresh_iff.1 U.1);clear kp v1 v2 v3 v4 v5 v6 v7 d2 w U kN;generalize j.sO n (.cells [ptr a])=N3 at*;refine J (o:=(Nc.un N3).obj n) _ (zh W) ?_;refine zcw a (u32A 0) (.s (.pointer Θ)) _ _ _ _ (zh w7) ?_;rw[z8];have e7:n≠a:=λe=>by rw[e,w7]at W;cases W
  have ν:=Cu d3 w7;refine ylp hg hl S c s hs (zh ((zi e4).trans w1)) (zh ((zi e5).trans w2)) (zh ((zi e6).trans w3)) (zh ((zi e7).trans W)) (zh ((zi e2).trans w5)) (zh (zd _ _ _)) _ (λd π=>?_);have f3:=fresh_un π;refine⟨ptr d,by rw[z8,z8];exact zh (zd _ _ _),?_⟩;rw[z8,z8,z8,ym];have ς:d≠a:=λe=>by have:=f3.2.1;rw[e,zd]at this;cases this
  have hd3:N3.obj d=Θ:=by have:=f3.2.1;rwa [zi ς]at this
  have fd:=kN3.fresh (by
   intro i H;simp only[Fa7,Fcg,or_false]at H;rcases H with rfl|rfl|rfl
   .rw[w5];simp
   .rw[w4];simp
   .rw[w6];simp) hd3
  have k4:=((kN3.set (p:=a) (x:=.cells [u32A 0,i32A 1,u32A 0,.s (.pointer Θ)]) (.inr f1.2.1)).set (p:=d) (x:=.cells (jl g l c s)) (.inr fd.2)).set (p:=a) (x:=.cells [u32A 1,i32A 0,u32A 0,ptr d]) (.inr f1.2.1);have d4:=disj_setR (x:=.cells [u32A 1,i32A 0,u32A 0,ptr d]) (disj_setR (x:=.cells (jl g l c s)) (disj_setR (x:=.cells [u32A 0,i32A 1,u32A 0,.s (.pointer Θ)]) d3 ν) (fresh_iff.1 f3.1)) ν;generalize K:((N3.sO a (.cells [u32A 0,i32A 1,u32A 0,.s (.pointer Θ)])).sO d (.cells (jl g l c s))).sO a (.cells [u32A 1,i32A 0,u32A 0,ptr d])=X at*;have kq:∀{i:Nat} {y:AObj},i≠a->N3.obj i=Δ y->X.obj i=Δ y:=λ{i y} H hy=>K▸(zi H).trans ((zi (λe=>by rw[e,hd3]at hy;cases hy)).trans ((zi H).trans hy));have x8:=kq e7 W;have x4:=kq e1 w4;have x5:=kq e2 w5;have x6:=kq e3 w6;have x7:X.obj a=Δ (.cells [u32A 1,i32A 0,u32A 0,ptr d]):=K▸zd _ _ _;have x9:X.obj d=Δ (.cells (jl g l c s)):=K▸(zi ς).trans (zd _ _ _);clear kq w1 w2 w3 w4 w5 w6 w7 W d3 kN3 f3 π K;refine J (o:=(Nc.un X).obj n) _ (zh x8) ?_;refine J (o:=(Nc.un X).obj a) _ (zh x7) ?_;refine ret (h Nc X cc nm wm cs ks (yz C (4*c+s) a) ws made cnt d ⟨⟨d4,f.b.hC,x5,⟨_,_,x4⟩,⟨_,_,x6⟩,hfn,hfw,hnw,f.b.r,f.b.n0,f.b.sz⟩,λkey b S=>?_,f.ways.ways λkey v b hk hw hW=>⟨hw,hW.keep k4 λi H=>.inl H⟩⟩ fd.1 x9);rw[Dr]at S;by_cases e:key=4*c+s
  .rw[if_pos e]at S;cases S;exact⟨n1,_,d,c,s,x7,fd.1,hc,hs,e,x9⟩
  .rw[if_neg e]at S;exact(f.nets key b S).keep k4 λi H=>.inl H
 |some b=>
  obtain⟨hbx,s1,d,c1,s1',ι,hdx,hc1,hs1,hke,Q⟩:=f.nets _ _ ο;have ec:c1=c/\s1'=s:=by unfold Hx at hc1;omega
  rw[ec.1,ec.2]at Q;refine J (o:=(Nc.un Nr).obj t) _ (zh t1) ?_;refine J (o:=(Nc.un Nr).obj fb) _ (zh f.b.hf) ?_;refine Bi rfl (it:=ti210) (ie:=ti242) (ik:=ti2) rfl rfl rfl rfl (zh G) rfl (qA (4*c+s)) (λe I=>?_) ?_
  .obtain⟨e,_,rfl⟩:=Fag.1 I;rfl
  rw[Ie,ο];intro n w;have U:=fresh_un w;rw[z8];refine yu (i:=ti242) (v:=ptr b) (b:=n) (o:=0) (l:=[.s (.pointer Θ)]) (st2:=Nc.un (Nr.sO n (.cells [ptr b]))) rfl rfl rfl (zh (zd _ _ _)) (show 1<=1 by decide) (by rw[z8,ym];rfl) ?_;have hI2:=f.box w (.cells [ptr b]);have u1:(Nr.sO n (.cells [ptr b])).obj n=Δ (.cells [ptr b]):=zd _ _ _;have u2:(Nr.sO n (.cells [ptr b])).obj b=_:=(zi (λe=>by have:=U.2.1;rw[<-e,ι]at this;cases this)).trans ι;have u3:(Nr.sO n (.cells [ptr b])).obj d=_:=(zi (λe=>by have:=U.2.1;rw[<-e,Q]at this;cases this)).trans Q;generalize Nr.sO n (.cells [ptr b])=j at*;refine J _ (zh u1) ?_;refine zcx b _ _ _ _ (zh u2) ?_;refine J _ (zh u1) ?_;refine J _ (zh u2) ?_;exact ret (h Nc j cc nm wm cs ks C ws made cnt d hI2 hdx u3)
end
def zio{P:Program}{l:Nat}{a:List AV}{g:Store}{R R':Ja}(h:AYield P l a g R)(p:∀r s,R r s->R' r s):AYield P l a g R':=by refine⟨λf M w i sto n=>?_⟩;obtain⟨y,b,d,c,u,t⟩:=h.out f M w i sto n;exact⟨y,b,d,c,u,t.mono λe A ⟨v,o,r,s,z,k,j⟩=>⟨v,o,r,s,z,p r s k,j⟩⟩
def yug(U:List Int)(a:Store)(R:Ja)(h:∀p,Fresh a p->R (.clos 513 [ptr p]) (a.sO p (.cells [yq U]))):
  Jb 509 [yq U] a R:=by
 refine Qa (c:=cfg 4 [1] []) zb func509 ?_;intro p b;exact ret (h p b)
def yuh(U:List Int)(w:Γ U<=1000000000)(p l:Nat)(I:Nat->Store->Prop)(d:∀i S,I i S->S.obj p=Δ (.cells [yq U]))
  (o:∀i S (f:i<Γ U),I (i+1) S->AYield Tryz.prog l [int (i:Nat),int U[i]] S λr n=>r=V.bool true/\I i n)
  (st:Store) (g:I (Γ U) st) (R:Ja) (h:∀S,I 0 S->R (.tup []) S):Jb 513 [.s (.func (.yield l) #[] #[]),ptr p] st R:=by
 refine Qy 19 func513 ?_;refine J _ (d _ _ g) ?_;refine ze θg ?_;refine AWp.loop (σ:=Nat×Int) ⟨λi=>[(0,.av (.s (.func (.yield l) #[] #[]))),(1,.av (ptr p)),(3,.av (int i.2))],λ_=>[],λi a=>i.1<=Γ U/\i.2=(i.1)-1/\I i.1 a,λi=>i.1⟩ zb ?_ ?_
 .exact⟨(Γ U,_),O,⟨Fai _,by rw[zj],g⟩,⟨Y,Y,Y,O⟩,O⟩
 rintro⟨i,j⟩ a ⟨f,e,b⟩;dsimp only at f e b⊢;subst e;refine bcd (λv=>?_) (λv=>?_);rotate_left
 .have:i=0:=Z;subst this;exact ret (h _ b)
 obtain⟨k,rfl⟩:∃k,i=k+1:=⟨i-1,Z⟩
 refine J _ (d _ _ b) ?_;refine⟨k,Z,J _ (zm Z) ?_⟩;have t:k<Γ U:=Z;have u:(((k+1:Nat):Int)-1)=(k):=Z;rw[u];refine zio (o k a t b) ?_;rintro r n ⟨rfl,c⟩;refine Qd ?_;exact⟨(k,_),(show k<k+1 by omega),⟨Z,rfl,c⟩,⟨Y,Y,Y,O⟩,O⟩
def zgm{S:Store}{p b:Nat}(h:p≠b):(S.dO b).obj p=S.obj p:=by show(bif Nat.beq p b then Θ else S.obj p)=_;rw[qp h];rfl
theorem zj7{a g:Store}{b:Nat}(h:a.obj b=Θ):(a.un g).dO b=a.un (g.dO b):=by
 show Store.mk _ _=Store.mk _ _
 congr 1
 funext i
 show(bif Nat.beq i b then Θ else(match g.obj i with|some x=>Δ x|none=>a.obj i))=(match(bif Nat.beq i b then Θ else g.obj i)with|some x=>Δ x|none=>a.obj i)
 grind[Ae]
def yr5{a g:Store}(d:zl a g)(b:Nat):zl a (g.dO b):=λi e c=>by
 refine d i e ?_;rcases c with c|c
 .refine .inl λf=>c ?_;show(bif Nat.beq i b then Θ else g.obj i)=Θ;grind
 .exact .inr c
def Ok{a g:Store}{b p:Nat}{x:AObj}(h:Fresh (a.un g) p)(c:g.obj b=Δ x):b≠p:=λe=>by have:=(fresh_un h).2.1;grind
def zzu{A:Nat}{room:Int}{g:Gnd}{l:List Bld}{k:Int}{Nc I:Store}{c nm wm:Nat}{cs:List (Int×Int)}{C:List Int}{ns ws:List (Int×Nat)}{ν U:Int}(E:FldB A room g l k Nc I c nm wm cs C ns ws ν U){W:Int->Nat->Prop}(hI:CI W room cs C ws U)(R:Ja)
  (h:∀f υ τ t ws',FldB A room g l k f υ c nm τ cs t ns ws' ν U->CI W room cs t ws' U->(τ=wm\/I.obj τ=Θ)->keepsB [A,nm,wm] I υ->R (.tup []) (f.un υ)):
  Jb 503 [ptr A] (Nc.un I) R:=by
 have hks:(Γ C:Int)<=4096:=by have:=hI.len;have:=E.r;omega
 refine Qb (c:=cfg 49 [1,3] []) zb func503 ?_;refine AWp.seq (AWp.of_vc zb ?_);intro Q ο;have f1:=fresh_un ο;rw[z8];have kf:∀{i:Nat} {y:AObj},I.obj i=Δ y->(I.sO Q (.cells [ptr A])).obj i=Δ y:=λ{i y} n=>(zi (Ok ο n)).trans n;obtain⟨b1,k1,hnm⟩:=E.hn;obtain⟨b2,k2,hwm⟩:=E.hw;have t1:=kf E.hf;have t2:=kf hnm;have t3:=kf hwm;have t4:(I.sO Q (.cells [ptr A])).obj Q=Δ (.cells [ptr A]):=zd _ _ _;have d1:=disj_setR (x:=.cells [ptr A]) E.dj (fresh_iff.1 f1.1);have n1:keepsB [A,nm,wm] I (I.sO Q (.cells [ptr A])):=(keepsB.refl _ _).set (.inr f1.2.1);clear kf f1 ο;rw[show Nc.un (I.sO Q (AObj.cells [AV.s (Value.pointer (Δ {block:=A,off:=0}))]))=Nc.un (I.sO Q (.cells [ptr A]))from rfl];generalize I.sO Q (.cells [ptr A])=P at*;refine AWp.seq (AWp.of_vc zb ?_);refine J (o:=(Nc.un P).obj Q) _ (zh t4) ?_;refine J (o:=(Nc.un P).obj A) _ (zh t1) ?_;refine yna d1 E.hC Z _ (λH d2 hC1=>?_);refine AWp.seq (AWp.of_vc zb ?_);refine J (o:=(H.un P).obj Q) _ (zh t4) ?_;refine J (o:=(H.un P).obj A) _ (zh t1) ?_;refine J (o:=(H.un P).obj wm) _ (zh t3) ?_;refine ze θg ?_;refine bcd (λc1=>?_) (λc1=>?_)
 .refine ret (h H P wm C ws ⟨d2,hC1,t1,⟨_,_,t2⟩,⟨_,_,t3⟩,E.d1,E.d2,E.d3,E.r,E.n0,E.sz⟩ hI (.inl rfl) n1)
 refine AWp.seq (AWp.of_vc zb ?_);refine Iy rfl (λd hkm=>?_);intro M π;have f2:=fresh_un hkm;rw[z8]at π⊢;have f3:=fresh_un π;rw[z8];refine yu (i:=ti211) (v:=mapA d) (b:=M) (o:=0) (l:=[.s (.map Θ)]) (st2:=H.un ((P.sO d (.map [] [] 0)).sO M (.cells [mapA d]))) rfl rfl rfl (zh (zd _ _ _)) (show 1<=1 by decide) (by rw[z8,ym];rfl) ?_;have q3:d≠M:=λe=>by have:=f3.2.1;grind[zd]
 have kf:∀{i:Nat} {y:AObj},P.obj i=Δ y->((P.sO d (.map [] [] 0)).sO M (.cells [mapA d])).obj i=Δ y:=λ{i y} n=>by
  have e1:i≠d:=λe=>by have:=f2.2.1;grind
  have e2:i≠M:=λe=>by have:=f3.2.1;grind[zi]
  grind[zi]
 have s1:=kf t1;have s2:=kf t2;have s3:=kf t3;have s4:=kf t4;have s5:((P.sO d (.map [] [] 0)).sO M (.cells [mapA d])).obj M=Δ (.cells [mapA d]):=zd _ _ _;have s6:((P.sO d (.map [] [] 0)).sO M (.cells [mapA d])).obj d=Δ (.map [] [] 0):=(zi q3).trans (zd _ _ _);have n2:keepsB [A,nm,wm] I ((P.sO d (.map [] [] 0)).sO M (.cells [mapA d])):=λi y hi n=>kf (n1 i y hi n);have d3:zl H ((P.sO d (.map [] [] 0)).sO M (.cells [mapA d])):=disj_setR (disj_setR d2 (fresh_iff.1 f2.1)) (fresh_iff.1 f3.1);have fkm:I.obj d=Θ:=(n1.fresh δ f2.2.1).2;have g1:A≠d:=λe=>δ;have g2:nm≠d:=λe=>δ;have g3:wm≠d:=λe=>δ;have g4:Q≠d:=λe=>δ;clear kf f2 f3 hkm π n1 t1 t2 t3 t4 d2;generalize(P.sO d (.map [] [] 0)).sO M (.cells [mapA d])=N2 at*;refine AWp.seq (AWp.seq (AWp.of_vc zb ?_));refine yug C _ _ (λpb ι=>?_);have f4:=fresh_un ι;rw[z8];have kg:∀{i:Nat} {y:AObj},N2.obj i=Δ y->(N2.sO pb (.cells [yq C])).obj i=Δ y:=λ{i y} n=>(zi (Ok ι n)).trans n;have t1:=kg s1;have t2:=kg s2;have t3:=kg s3;have t4:=kg s4;have t5:=kg s5;have t6:=kg s6;have t7:(N2.sO pb (.cells [yq C])).obj pb=Δ (.cells [yq C]):=zd _ _ _;have n3:keepsB [A,nm,wm] I (N2.sO pb (.cells [yq C])):=λi y hi n=>kg (n2 i y hi n);have d4:=disj_setR (x:=.cells [yq C]) d3 (fresh_iff.1 f4.1);have g7:pb≠d:=Ne.symm (Ok ι s6);clear kg s1 s2 s3 s4 s5 s6 n2 d3 f4 ι;generalize N2.sO pb (.cells [yq C])=N3 at*;refine AWp.block (AWp.rangeFunc rfl rfl func513 ξ ξ [(1,ptr Q),(3,ptr M)] (λp hp=>?_) (λq hq=>?_) ψ ψ (λu X a hfl η=>?_))
 .simp only[Fa7,Fcg,or_false]at hp;rcases hp with rfl|rfl<;>rfl
 .grind
 have f5:=fresh_un hfl;have w:∀{i:Nat} {y:AObj},N3.obj i=Δ y->i≠u:=λ{i y} n=>Ok hfl n;have d5:zl H (N3.sO u X):=disj_setR d4 (fresh_iff.1 f5.1);rw[z8];refine yuh C Z pb u (λi S=>∃f D t K bs L,S=f.un D/\zl f D/\qx f c room cs t/\CI W room cs t ws U/\keepsB [d,u] N3 D/\D.obj u=Δ X/\D.obj d=Δ (.map (K.map (qa λb=>ptr b)) bs L)/\∀(j:Nat) (key v:Int),i<=j->C[j]?=Δ key->qe cs key=Δ v->qe K v=qe ws v) (λi S hS=>?_) ?_ _ ?_ _ ?_
 .obtain⟨f,D,t,K,bs,L,rfl,e1,e2,e3,e4,e5,e6,e7⟩:=hS;exact zh (e4 pb _ (by simp[g7,w t7]) t7)
 .rintro i S hi ⟨f,D,t,K,bs,L,rfl,e1,e2,e3,e4,e5,e6,e7⟩;refine η (f.un D) _ _ (zh e5) rfl ?_;refine AWp.of_vc zb ?_;refine⟨rfl,zh e5,AWp.of_vc zb ?_⟩;rw[z8];have z:∀{i:Nat} {y:AObj},N3.obj i=Δ y->i≠d->(D.sO u a).obj i=Δ y:=λ{i y} n hn=>(zi (w n)).trans (e4 i y (by simp[hn,w n]) n);have r1:=z t1 g1;have r3:=z t3 g3;have r4:=z t4 g4;have r5:=z t5 (λe=>by rw[e,t6]at t5;cases t5);have r6:(D.sO u a).obj d=_:=(zi (w t6)).trans e6;have r7:(D.sO u a).obj u=Δ a:=zd _ _ _;have r8:keepsB [d,u] N3 (D.sO u a):=λi y hi n=>(zi (λe=>hi (by simp[e]))).trans (e4 i y hi n);have hll:N3.obj u=Θ:=f5.2.1;have d6:zl f (D.sO u a):=disj_setR e1 (Cu e1 e5);have hks':(Γ t:Int)<=4096:=by have:=e3.len;have:=E.r;omega
  have hki:C[i]?=Δ C[i]:=Fac hi;clear z e6 e4 e1;generalize D.sO u a=V at*;refine J (o:=(f.un V).obj Q) _ (zh r4) ?_;refine J (o:=(f.un V).obj A) _ (zh r1) ?_;refine ze7 d6 e2 Z C[i] _ (λhn G dd ς=>?_) (λv hv G dd ς=>?_)
  .refine⟨rfl,zh r7,rfl,G,V.sO u X,t,K,bs,L,z8 _ _ _ _,disj_setR dd (Cu dd r7),ς,e3,r8.set (.inl φ),zd _ _ _,(zi (w t6)).trans r6,λj key v hij hj hk=>?_⟩;grind
  .obtain⟨_,_,wb,hwb,_⟩:=e3.ok _ _ hv;refine Qc zb ybd ?_;refine J (o:=(G.un V).obj M) _ (zh r5) ?_;refine J (o:=(G.un V).obj Q) _ (zh r4) ?_;refine J (o:=(G.un V).obj A) _ (zh r1) ?_;refine⟨Bi rfl (it:=ti211) (ie:=ti562) (ik:=ti2) rfl rfl rfl rfl (zh r3) rfl (qA v) (λe he=>?_) ?_,O⟩
   .obtain⟨e,_,rfl⟩:=Fag.1 he;rfl
   rw[Ie,hwb];refine⟨⟨J (o:=(G.un V).obj M) _ (zh r5) rfl,O⟩,?_⟩;refine⟨F6 (.inl rfl) rfl (it:=ti211) (ik:=ti2) rfl rfl rfl (zh r6) rfl rfl (qA v) (λe he=>?_) (λe1 he hq=>?_) ?_,O⟩
   .obtain⟨e,_,rfl⟩:=Fag.1 he;rfl
   .obtain⟨e,_,rfl⟩:=Fag.1 he;have:v=e.1:=by simpa [qA,qa,int]using hq
    show int e.1=_;rw[this]
   obtain⟨T,B,hput⟩:=L8 (λb=>ptr b) K bs L v wb;have hput2:Aa (List.map (qa λb=>ptr b) K) bs L (qA v) (int v) ((Option.map (λb=>ptr b) (Δ wb)).getD (Fc ti562))=_:=hput;rw[hput2,z8];have hnc:=Cu dd r6;have x7:(V.sO d (.map ((yz K v wb).map (qa λb=>ptr b)) T B)).obj u=Δ a:=(zi (Ne.symm (w t6))).trans r7;have x6:(V.sO d (.map ((yz K v wb).map (qa λb=>ptr b)) T B)).obj d=_:=zd _ _ _;have x8:=r8.set (p:=d) (x:=.map ((yz K v wb).map (qa λb=>ptr b)) T B) (.inl φ);have xd:zl G (V.sO d (.map ((yz K v wb).map (qa λb=>ptr b)) T B)):=disj_setR dd hnc;refine⟨O,?_⟩;generalize V.sO d (.map ((yz K v wb).map (qa λb=>ptr b)) T B)=N5 at*;refine⟨rfl,zh x7,rfl,G,N5.sO u X,C[i]::t.erase C[i],yz K v wb,T,B,z8 _ _ _ _,disj_setR xd (Cu xd x7),ς,e3.hit hv,x8.set (.inl φ),zd _ _ _,(zi (w t6)).trans x6,λj key v2 hij hj hk=>?_⟩;rw[Dr];by_cases ε:v2=v
   .rw[if_pos ε,ε,hwb]
   .rw[if_neg ε];rcases Nat.lt_or_ge i j with h1|h1
    .exact e7 j key v2 h1 hj hk
    .have:j=i:=Z;subst this;rw[hki]at hj;cases hj;rw[hv]at hk;cases hk;exact absurd rfl ε
 .refine⟨H,N3.sO u X,C,[],[],0,rfl,d5,hC1,hI,(keepsB.refl _ _).set (.inl φ),zd _ _ _,(zi (w t6)).trans t6,λj key v hj hk=>?_⟩;rw[Fb4 hj]at hk;cases hk
 .rintro S ⟨f,D,t,K,bs,L,rfl,e1,e2,e3,e4,e5,e6,e7⟩;refine⟨zh e5,?_⟩;rw[zj7 (jt (Cu e1 e5)).1];have z:∀{i:Nat} {y:AObj},N3.obj i=Δ y->i≠d->(D.dO u).obj i=Δ y:=λ{i y} n hn=>(zgm (w n)).trans (e4 i y (by simp[hn,w n]) n);have r1:=z t1 g1;have r2:=z t2 g2;have r4:=z t4 g4;have r5:=z t5 (λe=>by rw[e,t6]at t5;cases t5);have r6:(D.dO u).obj d=_:=(zgm (w t6)).trans e6;have d6:zl f (D.dO u):=yr5 e1 u;have r8:keepsB [A,nm,wm] I (D.dO u):=λi y hi n=>z (n3 i y hi n) (λe=>by rw[e,fkm]at n;cases n);refine AWp.of_vc zb ?_;refine J _ (zh r4) ?_;refine J _ (zh r5) ?_;refine yu (i:=ti211) (v:=mapA d) (b:=A) (o:=8) rfl rfl rfl (zh r1) (show 9<=10 by decide) (z8 _ _ _ _) ?_;refine ret (h f _ d t K ⟨disj_setR d6 (Cu d6 r1),e2,zd _ _ _,⟨_,_,(zi (Ne.symm E.d1)).trans r2⟩,⟨_,_,(zi (Ne.symm g1)).trans r6⟩,E.d1,g1,g2,E.r,E.n0,E.sz⟩ (e3.ways λkey v b hk hw hW=>⟨?_,hW⟩) (.inr fkm) (r8.set (.inl φ)));obtain⟨j,hj⟩:=Fa6.1 (hI.ok key v hk).1;rw[e7 j key v (Fae _) hj hk];exact hw
section
variable {fb b b':Nat} {g:Gnd} {room k key:Int} {N:Store} {x:AV}
def zjp{S:Store}{Q C D B d:Nat}{M a1 a2 a3 y w v u t p n j i:AV}{z:Int}{l:List Bld}(hg:zt g){c s:Int}(a:Nat)(G:a<Γ g.T)
  (h1:S.obj Q=Δ (.cells [ptr fb])) (L:S.obj C=Δ (.cells [ptr d])) (K:S.obj D=Δ (.cells [int a])) (I:S.obj B=Δ (.cells [ptr b]))
  (hf:S.obj fb=Δ (.cells [y,int z,w,v,u,t,p,n,j,i])) (E:S.obj b=Δ (.cells [M,a1,a2,a3])) (hd:S.obj d=Δ (.cells (jl g l c s))) (H:d≠fb) (R:Ja)
  (h:∀m f,Fresh S f->f≠fb->R (.tup []) (((S.sO fb (.cells [y,int m,w,v,u,t,p,n,j,i])).sO f (.cells (wayL g l c s a))).sO b (.cells [M,a1,a2,.s (.slice (Δ ⟨f,0,Θ⟩) (Γ g.T) (Γ g.T))]))):Jb 504 [ptr Q,ptr C,ptr D,ptr B] S R:=by
 refine Qy 14 func504 ?_;refine J _ h1 ?_;refine nn fb 1 _ z 1 _ _ hf rfl λm=>?_;rw[show S.sO fb (.cells (zu [y,int z,w,v,u,t,p,n,j,i] 1 [AV.s (Value.int IntKind.i64 m)]))=S.sO fb (.cells [y,int m,w,v,u,t,p,n,j,i])from rfl];have k1:(S.sO fb (.cells [y,int m,w,v,u,t,p,n,j,i])).obj C=Δ (.cells [ptr d]):=(zi (λe=>by rw[e,hf]at L;cases L)).trans L;have X:(S.sO fb (.cells [y,int m,w,v,u,t,p,n,j,i])).obj D=Δ (.cells [int a]):=(zi (λe=>by rw[e,hf]at K;cases K)).trans K;have W:(S.sO fb (.cells [y,int m,w,v,u,t,p,n,j,i])).obj B=Δ (.cells [ptr b]):=(zi (λe=>by rw[e,hf]at I;cases I)).trans I;have V:(S.sO fb (.cells [y,int m,w,v,u,t,p,n,j,i])).obj b=Δ (.cells [M,a1,a2,a3]):=(zi (λe=>by rw[e,hf]at E;cases E)).trans E;have U:(S.sO fb (.cells [y,int m,w,v,u,t,p,n,j,i])).obj d=Δ (.cells (jl g l c s)):=(zi H).trans hd;have hh:=λf (hq:Fresh (S.sO fb (.cells [y,int m,w,v,u,t,p,n,j,i])) f)=>h m f (by have e:f≠fb:=λe=>ψ0;have:=hq;unfold Fresh at this⊢;rw[zi e]at this;exact this) (λe=>ψ0);generalize S.sO fb (.cells [y,int m,w,v,u,t,p,n,j,i])=P at*;refine Qc zb ybc ?_;refine Qby ?_;refine J _ k1 ?_;refine J _ X ?_;refine⟨zkp hg U a G _ (λf A=>?_),O⟩;have e3:(P.sO f (.cells (wayL g l c s a))).obj B=_:=(zi (λe=>by have:=A.1;grind)).trans W;have e4:(P.sO f (.cells (wayL g l c s a))).obj b=_:=(zi (λe=>by have:=A.1;grind)).trans V;refine⟨⟨J (o:=(P.sO f (.cells (wayL g l c s a))).obj B) _ e3 rfl,O⟩,?_⟩;refine⟨?_,O⟩;refine J _ rfl (ju rfl (jr rfl rfl rfl rfl ?_));refine yu rfl rfl rfl e4 (show 4<=4 by decide) rfl ?_;refine⟨O,?_⟩;exact ret (hh f A)
def yka{t n:Store}{p:Nat}{a:Int}{y:List (Int×Int)}{v:List Int}{u:List (Int×Nat)}{W:Int->Nat->Prop}(z:zl t n)(A:qx t p room y v)(l:CI W room y v u a)(w:1<=room/\room<=4096)(key:Int)(R:Ja)
  (h:∀f e i,zl f n->qx f p room e i->(∀c,CI (λk b=>if k=key then b=c else W k b) room e i (yz u (a+1) c) (a+1)/\qe e key=Δ (a+1))->R (.tup []) (f.un n)):Jb 502 [ptr p,int key,int (a+1)] (t.un n) R:=by
 have j:=l.len;refine ykg z A Z key (a+1) _ (λj f o d=>h f _ _ o d λc=>⟨l.put1 key c j,by rw[Dr,if_pos rfl]⟩) (λj f o d=>h f _ _ o d λc=>⟨(l.put2 w.1 key c j).1,?_⟩);rw[ny _ _ _ (Wg l.cnd _ _),if_neg (Ne.symm (l.put2 w.1 key c j).2),Dr,if_pos rfl]
def ylo{B:Store}(X:zl N B)(hF:FldAny fb room k N)(g:Gnd)(W:zt g)(hT:Γ g.T<=1000000)(l:List Bld)(V:Γ l<=1000000)(hb:∀b∈l,yh b/\onP g b)(c s:Int)(hc:Hx c)(U:0<=s/\s<=3)(R:Ja)
  (h:∀t n cc p o C A w v a f d,(∀i y,B.obj i=Δ y->n.obj i=Δ y/\i∉[fb,p,o])->FldI fb room g l k t n cc p o C A w v a f->d∉[fb,p,o]->n.obj d=Δ (.cells (jl g l c s))->R (ptr d) (t.un n)):
  Jb 62 [ptr fb,.agg (zq g),lst 6 zk l,int c,int s] (N.un B) R:=by
 refine ACalls.frame X (lw hF g W hT l V hb c s hc U (λr S=>∃t n G p o C A w v a f d,r=ptr d/\S=t.un n/\FldI fb room g l k t n G p o C A w v a f/\d∉[fb,p,o]/\n.obj d=Δ (.cells (jl g l c s))) (λt n G p o C A w v a f d D K I=>⟨t,n,G,p,o,C,A,w,v,a,f,d,rfl,rfl,D,K,I⟩)) ?_;rintro r a' ⟨t,n,G,p,o,C,A,w,v,a,f,d,rfl,rfl,D,K,I⟩ E;rw[O8];have dB:zl n B:=λi P M=>E i (un_has.2 (.inr P)) M;refine h t (n.un B) G p o C A w v a f d (λi y L=>⟨zh L,λu=>?_⟩) (D.ext E) K (yf dB I);have H:∀{j:Nat} {z:AObj},n.obj j=Δ z->i≠j:=λQ e=>dB i (e▸xk Q) (xk L);obtain⟨b1,k1,e1⟩:=D.b.hn;obtain⟨b2,k2,e2⟩:=D.b.hw;simp only[Fa7,Fcg,or_false]at u;rcases u with u|u|u
 .exact H D.b.hf u
 .exact H e1 u
 .exact H e2 u
theorem yn1{n:Nat}{f:Nat->Int}{L:List AV}(h:il n f=u32A 0::L):False:=by
 cases n with
 |zero=>cases h
 |succ n=>
  have:=congrArg List.head? h;have a:(il (n+1) f).head?=Δ (int (f 0)):=by have:=ba (f:=f) (n:=n+1) (t:=0) Z;grind
  rw[a]at this;cases this
theorem NetOK.off{l:List Bld}{a:List Nat}(h:NetOK g l a N key b')(f:N.obj b=Δ (.cells [u32A 0,i32A 0,u32A 0,x])):NetOK g l (b::a) N key b':=by
 obtain⟨v,s,d,c,e,t,u,p,o,n,j⟩:=h;refine⟨λi=>?_,s,d,c,e,t,λi=>?_,p,o,n,j⟩
 .grind
 grind[jl,zq]
theorem WayOK.off{l:List Bld}{e:List Nat}(h:WayOK g l e N key b')(i:N.obj b=Δ (.cells [u32A 0,i32A 0,u32A 0,x])):WayOK g l (b::e) N key b':=by
 obtain⟨y,s,d,c,f,a,v,w,u,t,p,o,n⟩:=h;refine⟨λj=>?_,s,d,c,f,a,v,λj=>?_,u,t,p,o,n⟩
 .grind
 grind[yn1]
def zjg(hF:FldAny fb room k N)(hk0:0<=k/\k<=4000000000000000000)(g:Gnd)(hg:zt g)(hT:Γ g.T<=1000000)(l:List Bld)(hl:Γ l<=1000000)(hb:∀b∈l,yh b/\onP g b)(c s:Int)(hc:Hx c)(hs:0<=s/\s<=3)(a:Nat)(hgo:a<Γ g.T)(R:Ja)
  (h:∀N' d,FldAny fb room (k+1) N'->N'.obj d=Δ (.cells (wayL g l c s a))->R (.s (.slice (Δ ⟨d,0,Θ⟩) (Γ g.T) (Γ g.T))) N'):
  Jb 500 [ptr fb,.agg (zq g),lst 6 zk l,int c,int s,int (a:Nat)] N R:=by
 have ha:=qg hg;have hcb:0<=c/\c<=2:=by unfold Hx at hc;omega
 refine Qb (c:=cfg 85 [6,11,13,17,67] []) zb func500 ?_;refine AWp.seq (AWp.of_vc zb ?_);intro L hpf pg hpg;have npc:L≠pg:=λe=>by have:=hpg.1;grind[zd]
 obtain⟨B,U⟩:∃B:Store,B=(Store.empty.sO L (.cells [ptr fb])).sO pg (.cells [int a]):=⟨_,rfl⟩
 have b1:B.obj L=Δ (.cells [ptr fb]):=by grind[zi,zd]
 have b2:B.obj pg=Δ (.cells [int a]):=by rw[U];exact zd _ _ _
 have eS:(N.sO L (AObj.cells [AV.s (Value.pointer (Δ {block:=fb,off:=0}))])).sO pg (AObj.cells [AV.s (Value.int IntKind.i64 a)])=N.un B:=by rw[U,Vu L,z8];rfl
 have hdB:zl N B:=by
  intro i h1 h2;rw[U]at h2;rcases has_setObj_iff.1 h2 with h2|h2
  .grind[fresh_iff,has_setObj_iff]
  .rcases has_setObj_iff.1 h2 with h2|h2
   .exact fresh_iff.1 hpf (h2▸h1)
   .exact(h2.elim (λh=>h rfl) (λh=>h rfl):False)
 rw[eS];clear eS U hpf hpg;refine AWp.seq (AWp.of_vc zb ?_);refine J (o:=(N.un B).obj L) _ (zh b1) ?_;refine ylo hdB hF g hg hT l hl hb c s hc hs _ (λNc D cc A n cs ks ns P M j d hBk hI Q υ=>?_);obtain⟨t1,o1⟩:=hBk _ _ b1;obtain⟨t2,o2⟩:=hBk _ _ b2;clear b1 b2 hBk hdB hF;intro pn hpn;rw[z8];refine yu (i:=ti156) (v:=ptr d) (b:=pn) (o:=0) (l:=[.s (.pointer Θ)]) (st2:=Nc.un (D.sO pn (.cells [ptr d]))) rfl rfl rfl (zh (zd _ _ _)) (show 1<=1 by decide) (by rw[z8,ym];rfl) ?_;have f:=hI.box hpn (.cells [ptr d]);have kp:∀{i:Nat} {y:AObj},D.obj i=Δ y->(D.sO pn (.cells [ptr d])).obj i=Δ y:=λ{i y} hy=>(zi (Ok hpn hy)).trans hy;have u1:=kp t1;have u2:=kp t2;have u3:(D.sO pn (.cells [ptr d])).obj pn=Δ (.cells [ptr d]):=zd _ _ _;have u4:=kp υ;clear kp υ t1 t2 hpn hI;generalize D.sO pn (.cells [ptr d])=N1 at*;have hkc:=f.ways.len;have hrr:=f.b.r;have hcn:=f.b.n0;refine AWp.seq (AWp.of_vc zb ?_);refine Qd ?_;refine Qd ?_;refine Qd ?_;refine Qd ?_;refine J (o:=(Nc.un N1).obj pg) _ (zh u2) ?_;refine Qd ?_
 refine AWp.meet (σ:=Store×List Int×Int×Bool) ⟨λq=>[(6,.av (ptr L)),(11,.av (ptr pg)),(13,.av (ptr pn)),(14,.av (int (Av c s a))),(15,.av (int q.2.2.1)),(16,.av (V.bool q.2.2.2))],λ_=>[],
  λq S=>S=q.1.un N1/\zl q.1 N1/\qx q.1 cc room cs q.2.1/\((q.2.2.2=false/\qe cs (Av c s a)=Θ/\q.2.1=ks)\/(q.2.2.2=true/\qe cs (Av c s a)=Δ q.2.2.1/\q.2.1=Av c s a::ks.erase (Av c s a)))⟩ zb ?_ ?_
 .refine J (o:=(Nc.un N1).obj L) _ (zh u1) ?_;refine J (o:=(Nc.un N1).obj fb) _ (zh f.b.hf) ?_;refine ze7 f.b.dj f.b.hC Z (Av c s a) _ (λhn E dd ε=>?_) (λv hv E dd ε=>?_)
  .exact⟨(E,ks,0,false),⟨rfl,dd,ε,.inl ⟨rfl,hn,rfl⟩⟩,Qbt,O⟩
  .exact⟨(E,_,v,true),⟨rfl,dd,ε,.inr ⟨rfl,hv,rfl⟩⟩,⟨Y,Y,Y,Y,Y,Y,O⟩,O⟩
 rintro⟨E,ks2,v0,z⟩ S ⟨rfl,dd,ε,hz⟩;dsimp only at dd ε hz⊢
 refine AWp.meet (σ:=Int×Nat) ⟨λq=>[(6,.av (ptr L)),(11,.av (ptr pg)),(13,.av (ptr pn)),(15,.av (int q.1))],λ_=>[],
  λq S=>∃Nc D n cs ks P j,S=Nc.un D/\FldB fb room g l (k+1) Nc D cc A n cs ks ns P M j/\(∀key b,qe ns key=Δ b->NetOK g l [fb,A,n] D key b)/\CI (λk b=>if k=Av c s a then b=q.2 else WayOK g l [fb,A,n] D k b) room cs ks P j/\qe P q.1=Δ q.2/\q.2∉[fb,A,n]∧
   (WayOK g l [fb,A,n] D (Av c s a) q.2\/D.obj q.2=Δ (.cells [u32A 0,i32A 0,u32A 0,.s (.slice Θ 0 0)]))/\(D.obj L=Δ (.cells [ptr fb])/\D.obj pg=Δ (.cells [int a])/\D.obj pn=Δ (.cells [ptr d]))/\D.obj d=Δ (.cells (jl g l c s))/\d∉[fb,A,n]⟩ zb ?_ ?_
 .cases z with
  |true=>
   have hz:qe cs (Av c s a)=Δ v0/\ks2=Av c s a::ks.erase (Av c s a):=by simpa using hz
   obtain⟨hz1,rfl⟩:=hz;obtain⟨_,_,b,hwb,hWb⟩:=f.ways.ok _ _ hz1;refine⟨(v0,b),⟨E,N1,n,cs,_,P,j,rfl,⟨dd,ε,f.b.hf,f.b.hn,f.b.hw,f.b.d1,f.b.d2,f.b.d3,hrr,⟨hcn.1,Z⟩,f.b.sz⟩,f.nets,(f.ways.hit hz1).ways λkey v b2 hk hw I=>⟨hw,?_⟩,hwb,hWb.1,.inl hWb,⟨u1,u2,u3⟩,u4,Q⟩,⟨Y,Y,Y,Y,O⟩,O⟩;grind
  |false=>
   have hz:qe cs (Av c s a)=Θ/\ks2=ks:=by simpa using hz
   obtain⟨hz1,rfl⟩:=hz;refine J (o:=(E.un N1).obj L) _ (zh u1) ?_;refine J (o:=(E.un N1).obj fb) _ (zh f.b.hf) ?_;refine Qd ?_;refine yu (i:=ti2) (v:=int (j+1)) (b:=fb) (o:=9) (l:=[ptr cc,int M,V.bool true,int g.W,int g.H,yn g.T,lst 6 zk l,mapA A,mapA n,int j]) (st2:=E.un (N1.sO fb (.cells [ptr cc,int M,V.bool true,int g.W,int g.H,yn g.T,lst 6 zk l,mapA A,mapA n,int (j+1)]))) rfl rfl rfl (zh f.b.hf) (show 10<=10 by decide) (z8 _ _ _ _) ?_;obtain⟨bn,kn,τ⟩:=f.b.hn;obtain⟨bw,kw,ι⟩:=f.b.hw;have π:=f.b.d1;have ν:=f.b.d2;have hnw:=f.b.d3;have hsz:=f.b.sz;have hnets:=f.nets;have hways:=f.ways;have hdf:d≠fb:=λe=>Q (by simp[e]);obtain⟨u,K⟩:∃u,u=N1.sO fb (.cells [ptr cc,int M,V.bool true,int g.W,int g.H,yn g.T,lst 6 zk l,mapA A,mapA n,int (j+1)]):=⟨_,rfl⟩
   rw[<-K];have kN:keepsB [fb,A,n] N1 u:=by rw[K];exact(keepsB.refl _ _).set (.inl φ)
   have v1:u.obj L=Δ (.cells [ptr fb]):=by rw[K];exact(zi (λe=>by rw[e,f.b.hf]at u1;cases u1)).trans u1
   have v2:u.obj pg=Δ (.cells [int a]):=by rw[K];exact(zi (λe=>by rw[e,f.b.hf]at u2;cases u2)).trans u2
   have v3:u.obj pn=Δ (.cells [ptr d]):=by rw[K];exact(zi (λe=>by rw[e,f.b.hf]at u3;cases u3)).trans u3
   have v4:u.obj d=Δ (.cells (jl g l c s)):=by rw[K];exact(zi hdf).trans u4
   have v5:u.obj fb=Δ (.cells [ptr cc,int M,V.bool true,int g.W,int g.H,yn g.T,lst 6 zk l,mapA A,mapA n,int (j+1)]):=by rw[K];exact zd _ _ _
   have v6:u.obj n=Δ (.map (P.map (qa λb=>ptr b)) bw kw):=by rw[K];exact(zi (Ne.symm ν)).trans ι
   have v7:u.obj A=Δ (.map (ns.map (qa λb=>ptr b)) bn kn):=by rw[K];exact(zi (Ne.symm π)).trans τ
   have X:zl E u:=by rw[K];exact disj_setR dd (Cu dd f.b.hf)
   have o3:pn∉[fb,A,n]:=by simp only[Fa7,Fcg,or_false,not_or];exact⟨λe=>(by rw[e,f.b.hf]at u3;cases u3),λe=>(by rw[e,τ]at u3;cases u3),λe=>(by rw[e,ι]at u3;cases u3)⟩
   clear K dd τ ι;refine J (o:=(E.un u).obj L) _ (zh v1) ?_;refine J (o:=(E.un u).obj fb) _ (zh v5) ?_;refine J (o:=(E.un u).obj L) _ (zh v1) ?_;refine J (o:=(E.un u).obj fb) _ (zh v5) ?_;refine yka X ε hways hrr (Av c s a) _ (λNc3 cs3 ks3 d3 hC3 ς=>?_);refine J (o:=(Nc3.un u).obj L) _ (zh v1) ?_;refine J (o:=(Nc3.un u).obj fb) _ (zh v5) ?_;intro w hnb;have f1:=fresh_un hnb;rw[z8];have e1:n≠w:=λe=>by have:=f1.2.1;rw[<-e,v6]at this;cases this
   refine F6 (.inl rfl) rfl (it:=ti211) (ik:=ti2) rfl rfl rfl (zh ((zi e1).trans v6)) rfl rfl (qA (j+1)) (λe he=>?_) (λe1 he hq=>?_) ?_
   .obtain⟨e,_,rfl⟩:=Fag.1 he;rfl
   .obtain⟨e,_,rfl⟩:=Fag.1 he;have:j+1=e.1:=by simpa [qA,qa,int]using hq
    show int e.1=_;rw[this]
   obtain⟨η,G,hput⟩:=L8 (λb=>ptr b) P bw kw (j+1) w;have hput2:Aa (List.map (qa λb=>ptr b) P) bw kw (qA (j+1)) (int (j+1)) (AV.s (Value.pointer (Δ {block:=w,off:=0})))=_:=hput;rw[hput2,z8];have e2:fb≠w:=λe=>by have:=f1.2.1;rw[<-e,v5]at this;cases this
   have e3:A≠w:=λe=>by have:=f1.2.1;rw[<-e,v7]at this;cases this
   have e4:L≠w:=λe=>by have:=f1.2.1;rw[<-e,v1]at this;cases this
   have e5:pg≠w:=λe=>by have:=f1.2.1;rw[<-e,v2]at this;cases this
   have e6:pn≠w:=λe=>by have:=f1.2.1;rw[<-e,v3]at this;cases this
   have e7:d≠w:=λe=>by have:=f1.2.1;rw[<-e,v4]at this;cases this
   have fn:=kN.fresh (by
    intro i t;simp only[Fa7,Fcg,or_false]at t;rcases t with rfl|rfl|rfl
    .rw[v5];simp
    .rw[v7];simp
    .rw[v6];simp) f1.2.1
   have kq:∀{i:Nat} {y:AObj},i≠w->i≠n->u.obj i=Δ y->((u.sO w (.cells [u32A 0,i32A 0,u32A 0,.s (.slice Θ 0 0)])).sO n (.map ((yz P (j+1) w).map (qa λb=>ptr b)) η G)).obj i=Δ y:=λ{i y} h1 h2 hy=>(zi h2).trans ((zi h1).trans hy);have w1:=kq e4 (by simp at o1;exact o1.2.2) v1;have w2:=kq e5 (by simp at o2;exact o2.2.2) v2;have w3:=kq e6 (by simp at o3;exact o3.2.2) v3;have w4:=kq e7 (by simp at Q;exact Q.2.2) v4;have w5:=kq e2 ν v5;have w7:=kq e3 hnw v7;have w6:((u.sO w (.cells [u32A 0,i32A 0,u32A 0,.s (.slice Θ 0 0)])).sO n (.map ((yz P (j+1) w).map (qa λb=>ptr b)) η G)).obj n=_:=zd _ _ _;have w8:((u.sO w (.cells [u32A 0,i32A 0,u32A 0,.s (.slice Θ 0 0)])).sO n (.map ((yz P (j+1) w).map (qa λb=>ptr b)) η G)).obj w=Δ (.cells [u32A 0,i32A 0,u32A 0,.s (.slice Θ 0 0)]):=(zi (Ne.symm e1)).trans (zd _ _ _);have k3:=(kN.set (p:=w) (x:=.cells [u32A 0,i32A 0,u32A 0,.s (.slice Θ 0 0)]) (.inr fn.2)).set (p:=n) (x:=.map ((yz P (j+1) w).map (qa λb=>ptr b)) η G) (.inl φ);have d4:zl Nc3 ((u.sO w (.cells [u32A 0,i32A 0,u32A 0,.s (.slice Θ 0 0)])).sO n (.map ((yz P (j+1) w).map (qa λb=>ptr b)) η G)):=disj_setR (disj_setR d3 (fresh_iff.1 f1.1)) (Cu d3 v6);rw[show(u.sO w (AObj.cells [AV.s (Value.int IntKind.u32 0),AV.s (Value.int IntKind.i32 0),AV.s (Value.int IntKind.u32 0),AV.s (Value.slice Θ 0 0)])).sO n (AObj.map (List.map (qa λb=>ptr b) (yz P (j+1) w)) η G)=(u.sO w (.cells [u32A 0,i32A 0,u32A 0,.s (.slice Θ 0 0)])).sO n (.map ((yz P (j+1) w).map (qa λb=>ptr b)) η G)from rfl];clear kq v1 v2 v3 v4 v5 v6 v7 hnb d3 X hput hput2 kN e1;generalize(u.sO w (.cells [u32A 0,i32A 0,u32A 0,.s (.slice Θ 0 0)])).sO n (.map ((yz P (j+1) w).map (qa λb=>ptr b)) η G)=N3 at*;refine J (o:=(Nc3.un N3).obj L) _ (zh w1) ?_;refine zzu (k:=k+1) ⟨d4,hC3,w5,⟨_,_,w7⟩,⟨_,_,w6⟩,π,ν,hnw,hrr,⟨Z,Z⟩,hsz⟩ (ς w).1 _ (λNc4 N4 wm4 ks4 ws4 hB4 hC4 hwm4 ο=>?_);have he:∀i,i∈[fb,A,wm4]->i∈[fb,A,n]\/N3.obj i=Θ:=λi t=>by
    simp only[Fa7,Fcg,or_false]at t⊢;rcases t with t|t|t
    .exact .inl (.inl t)
    .exact .inl (.inr (.inl t))
    .rcases hwm4 with h1|h1
     .exact .inl (.inr (.inr (t.trans h1)))
     .exact .inr (t▸h1)
   have he1:∀i,i∈[fb,A,wm4]->i∈[fb,A,n]\/N1.obj i=Θ:=λi t=>(he i t).imp id λh1=>(k3.fresh (by
    intro i t;simp only[Fa7,Fcg,or_false]at t;rcases t with rfl|rfl|rfl
    .rw[w5];simp
    .rw[w7];simp
    .rw[w6];simp) h1).2
   have hno:∀{i:Nat} {y:AObj},i∉[fb,A,n]->N3.obj i=Δ y->i∉[fb,A,wm4]:=λ{i y} h1 hy t=>(he i t).elim h1 λh2=>by rw[hy]at h2;cases h2
   have k4:=k3.trans ο;have hgw:qe ws4 (j+1)=Δ w:=by obtain⟨_,_,b',h1,h2⟩:=hC4.ok _ _ (ς w).2;rw[if_pos rfl]at h2;rw[h1,h2]
   exact⟨(j+1,w),⟨Nc4,N4,wm4,cs3,ks4,ws4,j+1,rfl,hB4,λkey b hb=>(hnets key b hb).keep k4 he1,hC4.ways (λkey2 v b hk hw I=>⟨hw,by
    dsimp only at I⊢;by_cases e:key2=Av c s a
    .rw[if_pos e]at I⊢;exact I
    .rw[if_neg e]at I⊢;exact I.keep k4 he1⟩),hgw,hno fn.1 w8,.inr (ο w _ fn.1 w8),⟨ο L _ o1 w1,ο pg _ o2 w2,ο pn _ o3 w3⟩,ο d _ Q w4,hno Q w4⟩,Qbt,O⟩
 clear hz ε dd f u1 u2 u3 u4 o1 o2 hkc hcn Q;rintro⟨v,b⟩ S ⟨Nc,D,n,cs,ks,P,j,rfl,U,hnets,ς,hgw,hbx,I,⟨t1,t2,t3⟩,υ,Q⟩;dsimp only at ς hgw hbx I⊢;obtain⟨bw,kw,ι⟩:=U.hw;obtain⟨bn,kn,τ⟩:=U.hn;refine AWp.seq (AWp.of_vc zb ?_);refine J (o:=(Nc.un D).obj L) _ (zh t1) ?_;refine J (o:=(Nc.un D).obj fb) _ (zh U.hf) ?_;refine Bi rfl (it:=ti211) (ie:=ti562) (ik:=ti2) rfl rfl rfl rfl (zh ι) rfl (qA v) (λe he=>?_) ?_
 .obtain⟨e,_,rfl⟩:=Fag.1 he;rfl
 rw[Ie,hgw];intro px hpx;have f1:=fresh_un hpx;rw[z8];refine yu (i:=ti562) (v:=ptr b) (b:=px) (o:=0) (l:=[.s (.pointer Θ)]) (st2:=Nc.un (D.sO px (.cells [ptr b]))) rfl rfl rfl (zh (zd _ _ _)) (show 1<=1 by decide) (by rw[z8,ym];rfl) ?_;have kp:∀{i:Nat} {y:AObj},D.obj i=Δ y->(D.sO px (.cells [ptr b])).obj i=Δ y:=λ{i y} hy=>(zi (Ok hpx hy)).trans hy;have u1:=kp t1;have u2:=kp t2;have u3:=kp t3;have u4:=kp υ;have u5:=kp U.hf;have u6:=kp ι;have u7:=kp τ;have u8:(D.sO px (.cells [ptr b])).obj px=Δ (.cells [ptr b]):=zd _ _ _;have kN:keepsB [fb,A,n] D (D.sO px (.cells [ptr b])):=λi y _ hy=>kp hy;have d1:=disj_setR (x:=.cells [ptr b]) U.dj (fresh_iff.1 f1.1);have hC:=U.hC;have π:=U.d1;have ν:=U.d2;have hnw:=U.d3;have hr:=U.r;have hn0:=U.n0;have hsz:=U.sz;have hW2:WayOK g l [fb,A,n] (D.sO px (.cells [ptr b])) (Av c s a) b\/(D.sO px (.cells [ptr b])).obj b=Δ (.cells [u32A 0,i32A 0,u32A 0,.s (.slice Θ 0 0)]):=I.imp (λh=>h.keep kN λi t=>.inl t) kp;clear kp t1 t2 t3 υ ι τ U f1 hpx I;generalize D.sO px (.cells [ptr b])=u at*;refine AWp.seq (AWp.of_vc zb ?_);refine J (o:=(Nc.un u).obj px) _ (zh u8) ?_;rcases hW2 with I|C
 .have hW0:=I;obtain⟨_,s1,X,c1,s1',goal1,C,hdx2,hc1,hs1,hg1,hke,hod2⟩:=I;refine zcx b _ _ _ _ (zh C) ?_;refine AWp.of_vc zb ?_;refine J (o:=(Nc.un u).obj px) _ (zh u8) ?_;refine J (o:=(Nc.un u).obj b) _ (zh C) ?_;have heq:c1=c/\s1'=s/\goal1=a:=by
   unfold Av at hke;unfold Hx at hc1;omega
  obtain⟨rfl,rfl,rfl⟩:=heq;refine ret (h _ X (.inl ⟨g,l,Nc,u,cc,A,n,cs,ks,ns,P,M,j,rfl,⟨⟨d1,hC,u5,⟨_,_,u7⟩,⟨_,_,u6⟩,π,ν,hnw,hr,hn0,hsz⟩,λkey b hb=>(hnets key b hb).keep kN λi t=>.inl t,ς.ways λkey v b' hk hw I=>⟨hw,?_⟩⟩⟩) (zh hod2));by_cases e:key=Av c1 s1' goal1
  .rw[if_pos e]at I;rw[e,I];exact hW0
  .rw[if_neg e]at I;exact I.keep kN λi t=>.inl t
 .have e1:L≠b:=λe=>by rw[e,C]at u1;cases u1
  have e2:pg≠b:=λe=>by rw[e,C]at u2;cases u2
  have e3:pn≠b:=λe=>by rw[e,C]at u3;cases u3
  have e4:px≠b:=λe=>by rw[e,C]at u8;cases u8
  have e5:fb≠b:=λe=>by rw[e,C]at u5;cases u5
  have e6:A≠b:=λe=>by rw[e,C]at u7;cases u7
  have e7:n≠b:=λe=>by rw[e,C]at u6;cases u6
  have e8:d≠b:=λe=>by rw[e,C]at u4;simp[jl,zq]at u4
  have e9:d≠fb:=λe=>Q (by simp[e]);have e10:px≠fb:=λe=>by rw[e,u5]at u8;cases u8
  have hnc:=Cu d1 C;refine zcw b (u32A 0) (.s (.slice Θ 0 0)) _ _ _ _ (zh C) ?_;rw[z8];refine zjp hg (l:=l) (c:=c) (s:=s) a hgo (zh ((zi e1).trans u1)) (zh ((zi e3).trans u3)) (zh ((zi e2).trans u2)) (zh ((zi e4).trans u8)) (zh ((zi e5).trans u5)) (zh (zd _ _ _)) (zh ((zi e8).trans u4)) e9 _ (λm X hfd hdf=>?_);have f3:=fresh_un hfd;refine⟨.s (.slice (Δ ⟨X,0,Θ⟩) (Γ g.T) (Γ g.T)),by rw[z8,z8,z8];exact zh (zd _ _ _),?_⟩;rw[z8,z8,z8,z8,ym];have hdn:X≠b:=λe=>by have:=f3.2.1;rw[e,zd]at this;cases this
  have hd3:u.obj X=Θ:=by have:=f3.2.1;rwa [zi hdn]at this
  have fd:=kN.fresh (by
   intro i t;simp only[Fa7,Fcg,or_false]at t;rcases t with rfl|rfl|rfl
   .rw[u5];simp
   .rw[u7];simp
   .rw[u6];simp) hd3
  have d4:=disj_setR (x:=.cells [u32A 1,i32A 0,u32A 0,.s (.slice (Δ ⟨X,0,Θ⟩) (Γ g.T) (Γ g.T))]) (disj_setR (x:=.cells (wayL g l c s a)) (disj_setR (x:=.cells [ptr cc,int m,V.bool true,int g.W,int g.H,yn g.T,lst 6 zk l,mapA A,mapA n,int j]) (disj_setR (x:=.cells [u32A 0,i32A 1,u32A 0,.s (.slice Θ 0 0)]) d1 hnc) (Cu d1 u5)) (fresh_iff.1 f3.1)) hnc;generalize hN4:(((u.sO b (.cells [u32A 0,i32A 1,u32A 0,.s (.slice Θ 0 0)])).sO fb (.cells [ptr cc,int m,V.bool true,int g.W,int g.H,yn g.T,lst 6 zk l,mapA A,mapA n,int j])).sO X (.cells (wayL g l c s a))).sO b (.cells [u32A 1,i32A 0,u32A 0,.s (.slice (Δ ⟨X,0,Θ⟩) (Γ g.T) (Γ g.T))])=N4 at*;have kq:∀{i:Nat} {y:AObj},i≠b->i≠fb->u.obj i=Δ y->N4.obj i=Δ y:=λ{i y} t hj hy=>hN4▸(zi t).trans ((zi (λe=>by rw[e,hd3]at hy;cases hy)).trans ((zi hj).trans ((zi t).trans hy)));have x8:=kq e4 e10 u8;have x6:=kq e7 (Ne.symm ν) u6;have x7:=kq e6 (Ne.symm π) u7;have x5:N4.obj fb=Δ (.cells [ptr cc,int m,V.bool true,int g.W,int g.H,yn g.T,lst 6 zk l,mapA A,mapA n,int j]):=hN4▸(zi e5).trans ((zi (Ne.symm hdf)).trans (zd _ _ _));have x9:N4.obj X=Δ (.cells (wayL g l c s a)):=hN4▸(zi hdn).trans (zd _ _ _);have xb:N4.obj b=Δ (.cells [u32A 1,i32A 0,u32A 0,.s (.slice (Δ ⟨X,0,Θ⟩) (Γ g.T) (Γ g.T))]):=hN4▸zd _ _ _;have k4:keepsB [b,fb,A,n] u N4:=λi y t hy=>kq (λe=>t (by simp[e])) (λe=>t (by simp[e])) hy;refine AWp.of_vc zb ?_;refine J _ (zh x8) ?_;refine J _ (zh xb) ?_;have hsub:∀i,i∈[fb,A,n]->i∈[b,fb,A,n]\/u.obj i=Θ:=λi t=>.inl (Fba _ t);refine ret (h _ X (.inl ⟨g,l,Nc,N4,cc,A,n,cs,ks,ns,P,m,j,rfl,⟨⟨d4,hC,x5,⟨_,_,x7⟩,⟨_,_,x6⟩,π,ν,hnw,hr,hn0,hsz⟩,λkey b hb=>(((hnets key b hb).keep kN λi t=>.inl t).off C).keep k4 hsub,ς.ways λkey v b' hk hw I=>⟨hw,?_⟩⟩⟩) (zh x9));by_cases e:key=Av c s a
  .rw[if_pos e]at I;rw[e,I];exact⟨hbx,_,X,c,s,a,xb,fd.1,hc,hs,hgo,rfl,x9⟩
  .rw[if_neg e]at I;exact((I.keep kN λi t=>.inl t).off C).keep k4 hsub
end
def yp5(n:Int)(b:1<=n/\n<=4096)(R:Ja)(h:∀N a,FldAny a n 0 N->R (.tup [ptr a,int 0]) N):Jb 46 [int n] Store.empty R:=by
 refine Qa (c:=cfg 21 [17] []) zb func46 ?_;refine ys7 n b.1 b.2 _ _ (λH c j=>?_);intro a d;rw[Vu a];refine od (λi l k=>?_) j (zd _ _ _) _ (λg f v u G y E w t p o D C B A z=>?_)
 .rcases has_setObj_iff.1 k with e|e
  .exact fresh_iff.1 d (e▸l)
  .exact(e.elim (λh=>h rfl) (λh=>h rfl))
 exact ret (h _ a (.inr ⟨g,f,c,[],[],0,0,_,_,_,_,_,_,rfl,t,p,b,Z,o⟩))
def R6(a:Nat):AV:=gvOf 119 (.pointer (Δ ⟨a,0,Θ⟩))
def yp6 : Ro Tryz.prog 119 "Net" 62 true = true := by kernel_rfl
def ypm : Ro Tryz.prog 119 "Ways" 500 true = true := by kernel_rfl
def yp7 (a : Nat) : Meets Tryz.prog 119 (.pointer (Δ ⟨a, 0, Θ⟩)) "Net" 62 (ptr a) := Meets.ptrB yp6 fun w T => .s _
def ypn (a : Nat) : Meets Tryz.prog 119 (.pointer (Δ ⟨a, 0, Θ⟩)) "Ways" 500 (ptr a) := Meets.ptrB ypm fun w T => .s _
def yol{w:Wld}(a:MayF w)(f:Nat)(room:Int)(k M:Nat)(S:k+M<=4000000000000000000):GuideK 119 (.pointer (Δ ⟨f,0,Θ⟩)) (λn N=>FldAny f room ((k+n:Nat):Int) N) M w:=by
 have H:=a.hB;have D:=a.hT;refine⟨λ{n N c s} p l g R h=>?_,λ{n N c s} p Q l g goal j R h=>?_⟩
 .refine⟨_,_,yp7 f,?_⟩;exact lw p w.G a.hg Z w.B Z a.hb c s l g _ (λP L K A y I C z v b t d E T i=>h d _ (.inl ⟨_,_,P,L,K,A,y,I,C,z,v,b,t,rfl,E⟩) (zh i))
 .refine⟨_,_,ypn f,?_⟩;refine zjg p ⟨Z,Z⟩ w.G a.hg Z w.B Z a.hb c s l g goal j _ (λu d o i=>h d u ?_ i);have e:((k+(n+1)))=((k+n))+1:=Z;show FldAny f room ((k+(n+1))) u;exact o
def FldAny.objs{A:Nat}{room k:Int}{N:Store}(h:FldAny A room k N):FldAny A room k N.objs:=by
 have eu:∀a b:Store,(a.un b).objs=a.objs.un b.objs:=λa b=>rfl;have t:∀{j:Store} {c f d},qx j c room f d->qx j.objs c room f d:=λ⟨m,v,p,e,Q,clk,o,n,y,w,u⟩=>⟨m,v,p,e,Q,clk,o,n,y,w,u⟩
 have p:∀{S:Store} {b},S.objs.has b->S.has b:=λh=>h.elim (λh=>.inl h) (λh=>absurd rfl h);have z:∀{a b:Store},zl a b->zl a.objs b.objs:=λP i o n=>P i (p o) (p n);rcases h with⟨g,l,j,Nr,c,M,K,f,d,L,I,made,cnt,e,h⟩|⟨j,Nr,c,f,d,made,cnt,H,G,E,D,C,B,e,o,n,y,w,u⟩
 .exact .inl ⟨g,l,j.objs,Nr.objs,c,M,K,f,d,L,I,made,cnt,by rw[e,eu],⟨⟨z h.b.dj,t h.b.hC,h.b.hf,h.b.hn,h.b.hw,h.b.d1,h.b.d2,h.b.d3,h.b.r,h.b.n0,h.b.sz⟩,h.nets,h.ways⟩⟩
 .exact .inr ⟨j.objs,Nr.objs,c,f,d,made,cnt,H,G,E,D,C,B,by rw[e,eu],z o,t n,y,w,u⟩
end Go.Proofs
namespace Go.Proofs
open Go Go.V
set_option maxRecDepth 20000
set_option maxHeartbeats 4000000
def Oc(a:Store):a.Has Store.empty:=⟨λb x h=>ω,λb x h=>ω⟩
def Dv:List AV:=[int 0,int 0,int 0,int 0,int 0,nil,nil,nil]
end Go.Proofs
