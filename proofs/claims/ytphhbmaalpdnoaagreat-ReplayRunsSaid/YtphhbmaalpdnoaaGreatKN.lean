/- Lemmas of thronglaw29; no conditions. -/
import Derived.Test.YtphhbmaalpdnoaaGreatKL
import Derived.Test.YtphhbmaalpdnoaaGreatKM
set_option linter.unusedSimpArgs false
set_option linter.unusedVariables false
set_option linter.defProp false
open List renaming length→Γ
open Option renaming some→Δ,none→Θ
namespace Go.Proofs
open Go Go.V
set_option maxRecDepth 20000
set_option maxHeartbeats 4000000
section
variable {F S:Store} {p:Nat}
def ytu{l:List Ent}(j:wv F p l)(i:zl F S)(g:Γ l<=1000000000)(b:∀e∈l,e.2.ok)(id:Int)(R:Ja)
  (h:∀f,wv f p (qz l id)->zl f S->R (V.bool (l.find? (Bv id)).isSome) (f.un S)):Jb 271 [ptr p,int id] (F.un S) R:=
 ACalls.frame (R:=λr a=>r=V.bool (l.find? (Bv id)).isSome/\wv a p (qz l id)) i (zg8 j g b id _ λa d=>⟨rfl,d⟩) λr a ⟨n,k⟩ c=>n▸h a k c
def pr{l:List Ent}(k:wv F p l)(j:zl F S)(i:Γ l<=1000000000)(c:∀e∈l,e.2.ok)(id:Int)(pos:Vc)(a:pos.ok)(R:Ja)
  (h:∀g,wv g p (qz l id++[(id,pos)])->zl g S->R (.tup []) (g.un S)):Jb 184 [ptr p,int id,.agg (zr pos)] (F.un S) R:=
 ACalls.frame (R:=λr b=>r=.tup []/\wv b p (qz l id++[(id,pos)])) j (ytq k i c id pos a _ λb f=>⟨rfl,f⟩) λr b ⟨o,n⟩ d=>o▸h b n d
def zhf{l:List Ent}(w:wv F p l)(u:zl F S)(t:Γ l<=1000000000)(d:∀e∈l,e.2.ok){q:Vc}(o:q.ok){r:Int}(n:yr r)(R:Ja)
  (h:∀a N v b,wv a p l->zl a N->zl a S->zl N S->Ints N v b->Sq l q r b->R v ((a.un N).un S)):Jb 277 [ptr p,.agg (zr q),int r] (F.un S) R:=
 ACalls.frame (R:=λv k=>∃a N b,k=a.un N/\wv a p l/\zl a N/\Ints N v b/\Sq l q r b) u (ytr w t d o n _ λa N v b j i g f=>⟨a,N,b,rfl,j,i,g,f⟩)
  λv k ⟨a,N,b,j,i,g,f,y⟩ c=>by subst j;exact h a N v b i g (disj_un.1 c).1 (disj_un.1 c).2 f y
end
end Go.Proofs
namespace Go.Proofs
open Go Go.V Tryz
set_option maxRecDepth 20000
set_option maxHeartbeats 4000000
section
variable {s p:Nat} {w:Wld} {o0 o1 o2:AV}
def stC(w:Wld)(o0 o1 o2:AV)(p:Nat):List AV:=zo w++[o0,o1,o2,ptr p]
def stS(s:Nat)(w:Wld)(o0 o1 o2:AV)(p:Nat):Store:=Store.empty.sO s (.cells (stC w o0 o1 o2 p))
def Np(w:Wld)(c:Int)(o:AV):Prop:=o=.s (.slice Θ 0 0)\/o=opV w.G w.B c
structure StandAt(F:Store)(s p:Nat)(w:Wld)(L:List Ent)(o0 o1 o2:AV):Prop where
 hc:wv F p L
 hd:zl F (stS s w o0 o1 o2 p)
 h0:Np w 0 o0
 h1:Np w 1 o1
 h2:Np w 2 o2
def H4(s:Nat)(w:Wld)(o0 o1 o2:AV)(p:Nat):(stS s w o0 o1 o2 p).obj s=Δ (.cells (stC w o0 o1 o2 p)):=zd _ _ _
def stS_has{i:Nat}:(stS s w o0 o1 o2 p).has i↔i=s:=by
 unfold Store.has stS;constructor
 .rintro(h|h)
  .apply Decidable.byContradiction;intro hn;rw[zi hn]at h;exact h rfl
  .exact absurd rfl h
 .rintro rfl;exact .inl (by rw[zd];simp)
def o6{F:Store}{c b a:AV}(h:zl F (stS s w o0 o1 o2 p)):zl F (stS s w c b a p):=λi e d=>h i e (stS_has.2 (stS_has.1 d))
def V4{l:List Unt}(f:yw l){a b:Nat}(h:a<b)(g:b<Γ l):(l[a]'Z).id<l[b].id:=by
 induction b with
 |zero=>omega
 |succ b d=>
  have c:=f (b+1) g Z;simp only[Fec]at c;by_cases e:a=b
  .subst e;exact c
  .have:=d Z Z;omega
def yk4(w:Wld)(T:Γ w.U<=1000000)(hn:∀u∈w.U,u.pos.ok)(R:Ja)
  (h:∀F s p L o0 o1 o2,StandAt F s p w L o0 o1 o2->Γ L<=Γ w.U->(yw w.U->∀e,e∈L↔∃u∈w.U,u.inn=0/\e=(u.id,u.pos))->R (ptr s) (F.un (stS s w o0 o1 o2 p))):Jb 109 [.agg (zo w)] Store.empty R:=by
 refine Qa (c:=cfg 31 [9] []) zb func109 ?_;refine Qc zb zax ?_;refine⟨zg9 _ (λF p H=>⟨Qe,?_⟩),O⟩;refine⟨λs hs=>⟨O,?_⟩,O⟩;refine Qbx ?_;have Q:F.sO s (.cells (stC w (.s (.slice Θ 0 0)) (.s (.slice Θ 0 0)) (.s (.slice Θ 0 0)) p))=F.un (stS s w (.s (.slice Θ 0 0)) (.s (.slice Θ 0 0)) (.s (.slice Θ 0 0)) p):=by exact z8 F Store.empty s _
 have P:StandAt F s p w [] (.s (.slice Θ 0 0)) (.s (.slice Θ 0 0)) (.s (.slice Θ 0 0)):=⟨H,λi D C=>by have:=stS_has.1 C;subst this;exact(fresh_iff.1 hs) D,.inl rfl,.inl rfl,.inl rfl⟩
 refine AWp.loop (σ:=Nat×Store×List Ent) ⟨λq=>[(3,.av (ptr s)),(11,.av (lst 10 zf w.U)),(12,.av (int (Γ w.U:Nat))),(13,.av (int (q.1:Nat)))],λ_=>[],
  λq t=>t=q.2.1.un (stS s w (.s (.slice Θ 0 0)) (.s (.slice Θ 0 0)) (.s (.slice Θ 0 0)) p)/\StandAt q.2.1 s p w q.2.2 (.s (.slice Θ 0 0)) (.s (.slice Θ 0 0)) (.s (.slice Θ 0 0))/\q.1<=Γ w.U/\Γ q.2.2<=q.1/\(∀e∈q.2.2,e.2.ok)/\(yw w.U->∀e,e∈q.2.2↔∃u∈w.U.take q.1,u.inn=0/\e=(u.id,u.pos)),λq=>Γ w.U-q.1⟩ zb ?_ ?_
 .refine⟨(0,F,[]),O,⟨Q,P,Fae _,Fai _,λe k=>(by cases k),λ_ e=>φ⟩,⟨Y,Y,?_,Y,O⟩,O⟩;rw[<-zj (f:=zf) w.U];exact Y
 rintro⟨i,G,L⟩ t ⟨rfl,y,M,I,l,hmem⟩;dsimp only at y M I l hmem⊢;refine bcd (λD=>?_) (λD=>?_);rotate_left
 .have:i=Γ w.U:=Z;subst this;rw[Fal]at hmem;exact ret (h G s p L _ _ _ y I hmem)
 have g:i<Γ w.U:=Z;refine⟨i,rfl,J _ (zm g) ?_⟩;have v:=hn w.U[i] (Faa g);refine zp (λE=>?_) (λE=>?_)
 .refine Qc zb zaw ?_;refine J (o:=(G.un (stS s w _ _ _ p)).obj s) _ (zh (H4 s w _ _ _ p)) ?_;refine⟨pr y.hc y.hd Z l w.U[i].id w.U[i].pos v _ (λS C n=>⟨O,?_⟩),O⟩;have hlen:(qz L w.U[i].id++[(w.U[i].id,w.U[i].pos)]).length<=i+1:=by
   rw[Fad];have:(qz L w.U[i].id).length<=Γ L:=Fbl _ _;simp only[Fao];omega
  refine Qd ?_;refine⟨(i+1,S,_),?_,⟨rfl,⟨C,n,.inl rfl,.inl rfl,.inl rfl⟩,ζ,hlen,λe k=>?_,λA e=>?_⟩,⟨Y,Y,Y,Y,O⟩,O⟩
  .show Γ w.U-(i+1)<Γ w.U-i;omega
  .rcases Faw.1 k with k|k
   .exact l e (mem_dropId.1 k).1
   .simp at k;subst k;exact v
  .dsimp only;rw[Fab g,Faw,mem_dropId,hmem A e];constructor
   .rintro(⟨⟨u,d,z⟩,_⟩|k)
    .exact⟨u,Faw.2 (.inl d),z⟩
    .simp at k;exact⟨w.U[i],Faw.2 (.inr φ),E,k⟩
   .rintro⟨u,d,z,B⟩;rcases Faw.1 d with d|d
    .refine .inl ⟨⟨u,d,z,B⟩,?_⟩;obtain⟨j,K,rfl⟩:=Faj d;rw[Fah]at K;rw[Fdt]at B;have:=V4 A (a:=j) (b:=i) Z g;subst B;show w.U[j].id≠w.U[i].id;omega
    .simp at d;subst d;exact .inr (by simp[B])
 .refine Qd ?_;refine⟨(i+1,G,L),?_,⟨rfl,y,ζ,ζ,l,λA e=>?_⟩,Qbt,O⟩
  .show Γ w.U-(i+1)<Γ w.U-i;omega
  .dsimp only;rw[hmem A e,Fab g];constructor
   .rintro⟨u,d,n⟩;exact⟨u,Faw.2 (.inl d),n⟩
   .rintro⟨u,d,n,z⟩;rcases Faw.1 d with d|d
    .exact⟨u,d,n,z⟩
    .simp at d;subst d;exact absurd n E
end
def Fo{g:Gnd}(a:zt g)(l:List Bld)(c:Int):∃x y,opV g l c=.lst 1 (x::y) Θ:=by
 have b:=qg a;unfold opV lst;cases h:rws jm (blL (Γ g.T) (yp g l c))with
 |nil=>
  have:=zj (f:=jm) (blL (Γ g.T) (yp g l c));rw[h,jd]at this;simp at this;omega
 |cons x y=>exact⟨x,y,rfl⟩
def Ox{v:AV}(h:∃x y,v=.lst 1 (x::y) Θ):cellsOf v=Δ [v]/\v.one=true:=by obtain⟨x,y,rfl⟩:=h;exact⟨rfl,rfl⟩
def zzy{F:Store}{s p:Nat}{w:Wld}{L:List Ent}{y u t:AV}(f:StandAt F s p w L y u t)(z:zt w.G)(I:Γ w.B<=1000000000000)(hb:∀b∈w.B,yh b/\onP w.G b)(c:Int)(H:c=0\/c=1\/c=2)(R:Ja)
  (h:∀P M K,StandAt F s p w L P M K->R (opV w.G w.B c) (F.un (stS s w P M K p))):Jb 187 [ptr s,int c] (F.un (stS s w y u t p)) R:=by
 have d:=zh (a:=F) (H4 s w y u t p);obtain⟨W,T,D⟩:=Fo z w.B 0;obtain⟨V,S,C⟩:=Fo z w.B 1;obtain⟨U,Q,A⟩:=Fo z w.B 2;rcases H with rfl|rfl|rfl
 .rcases f.h0 with e|e
  .subst e;refine Qy 35 func187 ?_;refine⟨0,rfl,ψ,?_⟩;refine J (o:=(F.un (stS s w _ _ _ p)).obj s) _ d ?_;refine Qc zb Nh ?_;refine J (o:=(F.un (stS s w _ _ _ p)).obj s) _ d ?_;refine J (o:=(F.un (stS s w _ _ _ p)).obj s) _ d ?_;refine⟨Mm w.G z w.B I hb 0 _ _ ⟨O,?_⟩,O⟩;refine⟨0,rfl,ψ,?_⟩;have j:=zh (a:=F) (H4 s w (opV w.G w.B 0) u t p);have g:=Ox (Fo z w.B 0);refine⟨?_,O⟩;refine J _ rfl (ju rfl (jr (v:=opV w.G w.B 0) rfl rfl rfl rfl ?_));refine yu (i:=ti68) (v:=opV w.G w.B 0) (b:=s) (o:=0+8+0*ti68.size) (l:=stC w _ u t p) (st2:=F.un (stS s w (opV w.G w.B 0) u t p)) g.1 g.2 rfl d (show 8+1<=12 by decide) ?_ ?_
   .rw[z8];unfold stS;rw[ym];rfl
   refine⟨O,?_⟩;refine⟨0,rfl,ψ,?_⟩;refine J (o:=(F.un (stS s w _ _ _ p)).obj s) _ j ?_;exact ret (h _ _ _ ⟨f.hc,o6 f.hd,.inr rfl,f.h1,f.h2⟩)
  .rw[D]at e;subst e;refine Qy 35 func187 ?_;refine⟨0,rfl,ψ,?_⟩;refine J (o:=(F.un (stS s w _ _ _ p)).obj s) _ d ?_;refine λE n=>?_;have k:E=false:=by
    cases E with
    |true=>cases n rfl
    |false=>rfl
   subst k;refine⟨0,rfl,ψ,?_⟩;refine J (o:=(F.un (stS s w _ _ _ p)).obj s) _ d ?_;refine ret ?_;have:=h _ _ _ f;rw[D]at this;exact this
 .rcases f.h1 with e|e
  .subst e;refine Qy 35 func187 ?_;refine⟨1,rfl,ψ,?_⟩;refine J (o:=(F.un (stS s w _ _ _ p)).obj s) _ d ?_;refine Qc zb Nh ?_;refine J (o:=(F.un (stS s w _ _ _ p)).obj s) _ d ?_;refine J (o:=(F.un (stS s w _ _ _ p)).obj s) _ d ?_;refine⟨Mm w.G z w.B I hb 1 _ _ ⟨O,?_⟩,O⟩;refine⟨1,rfl,ψ,?_⟩;have j:=zh (a:=F) (H4 s w y (opV w.G w.B 1) t p);have g:=Ox (Fo z w.B 1);refine⟨?_,O⟩;refine J _ rfl (ju rfl (jr (v:=opV w.G w.B 1) rfl rfl rfl rfl ?_));refine yu (i:=ti68) (v:=opV w.G w.B 1) (b:=s) (o:=0+8+1*ti68.size) (l:=stC w y _ t p) (st2:=F.un (stS s w y (opV w.G w.B 1) t p)) g.1 g.2 rfl d (show 9+1<=12 by decide) ?_ ?_
   .rw[z8];unfold stS;rw[ym];rfl
   refine⟨O,?_⟩;refine⟨1,rfl,ψ,?_⟩;refine J (o:=(F.un (stS s w _ _ _ p)).obj s) _ j ?_;exact ret (h _ _ _ ⟨f.hc,o6 f.hd,f.h0,.inr rfl,f.h2⟩)
  .rw[C]at e;subst e;refine Qy 35 func187 ?_;refine⟨1,rfl,ψ,?_⟩;refine J (o:=(F.un (stS s w _ _ _ p)).obj s) _ d ?_;refine λE n=>?_;have k:E=false:=by
    cases E with
    |true=>cases n rfl
    |false=>rfl
   subst k;refine⟨1,rfl,ψ,?_⟩;refine J (o:=(F.un (stS s w _ _ _ p)).obj s) _ d ?_;refine ret ?_;have:=h _ _ _ f;rw[C]at this;exact this
 .rcases f.h2 with e|e
  .subst e;refine Qy 35 func187 ?_;refine⟨2,rfl,ψ,?_⟩;refine J (o:=(F.un (stS s w _ _ _ p)).obj s) _ d ?_;refine Qc zb Nh ?_;refine J (o:=(F.un (stS s w _ _ _ p)).obj s) _ d ?_;refine J (o:=(F.un (stS s w _ _ _ p)).obj s) _ d ?_;refine⟨Mm w.G z w.B I hb 2 _ _ ⟨O,?_⟩,O⟩;refine⟨2,rfl,ψ,?_⟩;have j:=zh (a:=F) (H4 s w y u (opV w.G w.B 2) p);have g:=Ox (Fo z w.B 2);refine⟨?_,O⟩;refine J _ rfl (ju rfl (jr (v:=opV w.G w.B 2) rfl rfl rfl rfl ?_));refine yu (i:=ti68) (v:=opV w.G w.B 2) (b:=s) (o:=0+8+2*ti68.size) (l:=stC w y u _ p) (st2:=F.un (stS s w y u (opV w.G w.B 2) p)) g.1 g.2 rfl d (show 10+1<=12 by decide) ?_ ?_
   .rw[z8];unfold stS;rw[ym];rfl
   refine⟨O,?_⟩;refine⟨2,rfl,ψ,?_⟩;refine J (o:=(F.un (stS s w _ _ _ p)).obj s) _ j ?_;exact ret (h _ _ _ ⟨f.hc,o6 f.hd,f.h0,f.h1,.inr rfl⟩)
  .rw[A]at e;subst e;refine Qy 35 func187 ?_;refine⟨2,rfl,ψ,?_⟩;refine J (o:=(F.un (stS s w _ _ _ p)).obj s) _ d ?_;refine λE n=>?_;have k:E=false:=by
    cases E with
    |true=>cases n rfl
    |false=>rfl
   subst k;refine⟨2,rfl,ψ,?_⟩;refine J (o:=(F.un (stS s w _ _ _ p)).obj s) _ d ?_;refine ret ?_;have:=h _ _ _ f;rw[A]at this;exact this
section
variable {F:Store} {s p:Nat} {w:Wld} {o0 o1 o2:AV}
def yam{L:List Ent}(I:StandAt F s p w L o0 o1 o2)(M:yw w.U)(hU:Γ w.U<=1000000)(hn:∀u∈w.U,u.pos.ok)(υ:Γ L<=Γ w.U)(hL:Fp w L)(q:Vc)(hq:q.ok)(r:Int)(τ:0<r/\r<=262144)(R:Ja)
  (h:∀t f,StandAt t s p w L o0 o1 o2->L5 w q (r+81920) f->Γ f<=1000000->R (lst 10 zf f) (t.un (stS s w o0 o1 o2 p))):Jb 188 [ptr s,.agg (zr q),int r] (F.un (stS s w o0 o1 o2 p)) R:=by
 have ho:=zh (a:=F) (H4 s w o0 o1 o2 p);refine Qy 47 func188 ?_;refine Qc zb zas ?_;refine J (o:=(F.un (stS s w _ _ _ p)).obj s) _ ho ?_;refine Qd ?_;refine⟨zhf I.hc I.hd Z (Lu hL hn) hq (r:=r+81920) ⟨Z,Z⟩ _ (λt N v d g1 g2 g3 g4 g5 Q=>⟨O,?_⟩),O⟩;have ε:StandAt t s p w L o0 o1 o2:=⟨g1,g3,I.h0,I.h1,I.h2⟩
 have X:((t.un N).un (stS s w o0 o1 o2 p)).obj s=Δ (.cells (stC w o0 o1 o2 p)):=zh (H4 s w o0 o1 o2 p);have η:zl (t.un N) (stS s w o0 o1 o2 p):=disj_un.2 ⟨g3,g4⟩;have hv:∃K n,v=.s (.slice K (Γ d) n)/\∀i,i<Γ d->∃b c,K=Δ ⟨b,0,Θ⟩/\((t.un N).un (stS s w o0 o1 o2 p)).obj b=Δ (.cells (d.map aI++c)):=by
  rcases Rs g5 with⟨rfl,rfl⟩|⟨b,n,c,rfl,y,_⟩
  .exact⟨Θ,0,rfl,λi hi=>absurd hi (Fav i)⟩
  .exact⟨_,n,rfl,λi _=>⟨b,c,rfl,yf η (zh y)⟩⟩
 obtain⟨K,n,rfl,G⟩:=hv;have π:Γ d<=Γ w.U:=by have:=Fbs (l₂:=L.map (·.1)) (Q.1.imp λh=>Z) (λid l=>by obtain⟨e,he,h2,_⟩:=(Q.2 id).1 l;exact Fag.2 ⟨e,he,h2⟩);rw[Fas]at this;omega
 have hfin:∀f:List Unt,f.map (·.id)=d->(∀u∈f,u∈w.U/\u.inn=0)->R (lst 10 zf f) (t.un (stS s w o0 o1 o2 p)):=λf e1 e2=>
  h t f ε (zc9 M hL Q e1 e2) (by have:=congrArg List.length e1;rw[Fas]at this;omega)
 have hback:=zet (S:=stS s w o0 o1 o2 p) g2;generalize(t.un N).un (stS s w o0 o1 o2 p)=st1 at*
 refine AWp.loop (σ:=Nat×AV×List Unt) ⟨λx=>[(0,.av (ptr s)),(6,.av x.2.1),(18,.av (.s (.slice K (Γ d) n))),(19,.av (int (Γ d:Nat))),(20,.av (int (x.1:Nat)))],λ_=>[],
  λx st'=>x.1<=Γ d/\App 10 st1 x.2.1 (rws zf x.2.2) st'/\x.2.2.map (·.id)=d.take x.1/\∀u∈x.2.2,u∈w.U/\u.inn=0,λx=>Γ d-x.1⟩ zb ?_ ?_
 .exact⟨(0,_,[]),O,⟨Fae _,App.start 10 st1,rfl,λu D=>(by cases D)⟩,⟨Y,Y,Y,Y,Y,O⟩,O⟩
 rintro⟨i,v2,f⟩ st' ⟨hi,C,g,B⟩;dsimp only at hi C g B⊢;refine bcd (λh1=>?_) (λh1=>?_);rotate_left
 .have:i=Γ d:=Z;subst this;rw[Fal]at g;exact⟨_,_,AV.le_trans C.le (Tt),C.has.trans hback,hfin f g B⟩
 have hlt:i<Γ d:=Z;obtain⟨b,c,rfl,y⟩:=G i hlt;have hob':st'.obj b=Δ (.cells (d.map aI++c)):=by rw[C.obj];exact y
 have ο:st'.obj s=Δ (.cells (stC w o0 o1 o2 p)):=by rw[C.obj];exact X
 refine⟨i,rfl,hlt,?_⟩;refine Qby ?_;refine J (o:=List.head? _) (int d[i]) ψ5 ?_;refine Qby ?_;refine p7 w.U Z M d[i] _ _ (λk hk z hz=>?_);obtain⟨e,he,l,_⟩:=(Q.2 d[i]).1 (Faa hlt);obtain⟨u,D,W,rfl⟩:=(hL e).1 he;have hfound:∃A:k<Γ w.U,w.U[k].id=d[i]:=by
  obtain⟨j,hj,rfl⟩:=Faj D;have h5:j>=k:=Decidable.byContradiction λς=>by have:=hk.2.1 j hj Z;have h6:(w.U[j]).id=d[i]:=l;omega
  have h7:k<Γ w.U:=Z;refine⟨h7,?_⟩;have h8:=hk.2.2 k h7 (Fai _);have h6:(w.U[j]).id=d[i]:=l;by_cases e:k=j
  .subst e;exact h6
  .have:=Hd M (show k<j by omega) hj;omega
 obtain⟨A,E⟩:=hfound;refine Qby ?_;refine⟨k,rfl,J _ (zm A) ?_⟩;refine⟨ψ,?_⟩;have ν:Γ f=i:=by have:=congrArg List.length g;rw[Fas,Fah]at this;omega
 refine Af (ie:=ti72) (rows':=[zf w.U[k]]) C ?_ ?_ ⟨?_,?_⟩ (λv3 ι H=>?_)
 .rfl
 .rfl
 .simp only[zj,Fao,ti72];omega
 .simp only[zj,Fao];omega
 refine Qd ?_;have T:w.U[k]=u:=Ke M (Faa A) D (by rw[E];exact l.symm);refine⟨(i+1,v3,f++[w.U[k]]),?_,⟨ζ,?_,?_,λu2 V=>?_⟩,Qbt,O⟩
 .show Γ d-(i+1)<Γ d-i;omega
 .dsimp only;unfold rws at H⊢;rw[Fa8];exact H
 .dsimp only;rw[Fa8,g];simp[E]
 .rcases Faw.1 V with P|P
  .exact B u2 P
  .simp at P;subst P;rw[T];exact⟨D,W⟩
def yad{L:List Ent}(hS:StandAt F s p w L o0 o1 o2)(T:zt w.G)(hB:Γ w.B<=1000000000000)(hb:∀b∈w.B,yh b/\onP w.G b)(X:yw w.U)(hU:Γ w.U<=1000000)(hn:∀u∈w.U,u.pos.ok)(K:Γ L<=Γ w.U)(hL:Fp w L)
  (id k:Int) (q:Vc) (D:q.ok) (R:Ja)
  (h:∀z v S Q P,(z=true↔qi w id k q)->StandAt v s p w L S Q P->R (V.bool z) (v.un (stS s w S Q P p))):Jb 110 [ptr s,int id,int k,.agg (zr q)] (F.un (stS s w o0 o1 o2 p)) R:=by
 have ho:=zh (a:=F) (H4 s w o0 o1 o2 p);have I:=Cg k;have hc:=Hp k;refine Qy 56 func110 ?_;refine ky k _ _ ?_;refine Qc zb zav ?_;refine J (o:=(F.un (stS s w _ _ _ p)).obj s) _ ho ?_;refine⟨zzy hS T hB hb (yk k) hc _ (λA a1 a2 t=>⟨?_,?_⟩),O⟩
 .have E:=zh (a:=F) (H4 s w A a1 a2 p);repeat(first|exact O|refine⟨rfl,?_⟩|refine⟨J (o:=(F.un (stS s w A a1 a2 p)).obj s) _ E rfl,?_⟩)
 refine⟨zfm w.G T w.B (yk k) q D (zw k) ⟨I.1,Z⟩ _ _ (λz hz=>⟨O,?_⟩),O⟩;refine ya ?_;refine zg (λc1=>?_) (λc1=>ret (h false _ _ _ _ ψ6 t));have hfree:=hz.1 c1;refine yam t X hU hn K hL q D (zw k) ⟨I.1,Z⟩ _ (λv c n l W=>?_);have hci:=zg3 (id:=id) hfree l;have no:¬qi w id k q->R (V.bool false) (v.un (stS s w A a1 a2 p)):=λhh=>h false _ _ _ _ θ8 n
 refine AWp.loop (σ:=Nat) ⟨λi=>[(1,.av (int id)),(7,.bx 7 0),(9,.bx 9 0),(32,.av (lst 10 zf c)),(33,.av (int (Γ c:Nat))),(34,.av (int (i:Nat)))],λ_=>[(7,zr q),(9,D6 k)],
  λi g=>g=v.un (stS s w A a1 a2 p)/\i<=Γ c/\∀j,(hj:j<Γ c)->j<i->c[j].id≠id->wt q (zw k) c[j].pos (zw c[j].kind)=true,λi=>Γ c-i⟩ zb ?_ ?_
 .refine⟨0,O,⟨rfl,Fae _,λj _ hj=>Z⟩,⟨Y,Y,Y,Y,?_,Y,O⟩,⟨rfl,rfl,O⟩⟩;rw[<-zj (f:=zf) c];exact Y
 rintro i g ⟨rfl,hi,hall⟩;refine bcd (λh1=>?_) (λh1=>?_);rotate_left
 .refine ret (h true _ _ _ _ ψ7 n)
 have d:i<Γ c:=Z;have C:=(l c[i]).1 (Faa d);have next:(c[i].id≠id->wt q (zw k) c[i].pos (zw c[i].kind)=true)->∀j,(hj:j<Γ c)->j<i+1->c[j].id≠id->wt q (zw k) c[j].pos (zw c[j].kind)=true:=λhh j hj ε=>by
  by_cases e:j=i
  .subst e;exact hh
  .exact hall j hj Z
 refine⟨i,rfl,J _ (zm d) ?_⟩;refine Qc zb zau ?_;refine qd (λM=>?_) (λM=>?_)
 .refine⟨ky c[i].kind _ _ ⟨Qe,?_⟩,O⟩;have H:=Cg c[i].kind;refine⟨zh9 q (zw k) c[i].pos (zw c[i].kind) D (hn _ C.1.1) ⟨I.1,Z⟩ ⟨H.1,Z⟩ _ _ ⟨O,?_⟩,O⟩;refine ya ?_;refine zg (λy=>?_) (λy=>?_)
  .refine Qd ?_;refine⟨i+1,?_,⟨rfl,Z,next λ_=>y⟩,Qbt,⟨rfl,rfl,O⟩⟩;show Γ c-(i+1)<Γ c-i;omega
  .refine ret (no λhh=>?_);have:=hci.1 hh c[i] (Faa d) M;rw[this]at y;cases y
 .refine Qbw ?_;refine Qbx ?_;refine Qd ?_;refine⟨i+1,?_,⟨rfl,Z,next λhne=>absurd M hne⟩,Qbt,⟨rfl,rfl,O⟩⟩;show Γ c-(i+1)<Γ c-i;omega
end
def yne{R:Ja}{b:Bool}{a:Store}(h:R (V.bool b) a)(c:b=true):R (V.bool true) a:=by rw[c]at h;exact h
def ypz(w:Wld)(b:Bld)(p:Nat)(st:Store)(a:st.obj p=Δ (.cells (zo w)))(R:Ja)(h:R (V.bool (decide (b.owner>w.players\/b.id>=w.next))) st):
  Jb 180 ([.agg (zk b)]++[ptr p]) st R:=by
 refine Qy 16 func180 ?_;refine J _ a ?_;refine bcd (λc=>ret (yne h (decide_eq_true (.inl c)))) (λc=>?_);refine J _ a ?_;refine ret ?_;have e:decide (b.owner>w.players\/b.id>=w.next)=decide (b.id>=w.next):=by rw[Fbm,decide_eq_true_iff,decide_eq_true_iff];omega
 rw[e]at h;exact h
def ypy(w:Wld)(y:w.fits)(i:Store)(R:Ja)(h:∀z:Bool,(z=true↔Kp w)->R (V.bool z) i):Jb 107 [.agg (zo w)] i R:=by
 obtain⟨l,g,v⟩:=y;refine Qa (c:=cfg 54 [1] []) zb func107 ?_;intro p o;have a:(i.sO p (.cells (zo w))).obj p=Δ (.cells (zo w)):=zd _ _ _;have nof:¬Kp w->∃r e,AV.le (V.bool false) r/\(i.sO p (.cells (zo w))).Has e/\R r e:=λhn=>Dg (Tt) (Cw o.1) (h false θ7);refine J _ a ?_;refine bcd (λL=>nof λq=>θb) (λL=>?_);refine J _ a ?_;refine bcd (λK=>nof λq=>θb) (λK=>?_);refine J _ a ?_;refine bcd (λI=>nof λq=>θb) (λI=>?_);refine J _ a ?_;refine bcd (λH=>nof λq=>θb) (λH=>?_);refine J _ a ?_;refine bcd (λE=>nof λq=>θb) (λE=>?_);refine J _ a ?_;refine bcd (λD=>nof λq=>θb) (λD=>?_);refine J _ a ?_;refine nt w.G l _ _ (λz f=>?_);refine ya ?_;refine zg (λk=>?_) (λk=>nof λq=>by have:=f.2 q.2.1.1;rw[this]at k;cases k);have t:=f.1 k;refine J _ a ?_;refine J _ a ?_;refine ytw w.G t w.B g _ _ (λz f=>?_);refine ya ?_;refine zg (λj=>?_) (λj=>nof λq=>by have:=f.2 q.2.1.2.1;rw[this]at j;cases j);have u:=f.1 j;refine J _ a ?_;have A:((rws zf w.U).length:Int)=(Γ w.U:Int):=by rw[zj]
 refine bcd (λC=>nof λq=>by have:=q.2.1.2.2;omega) (λC=>?_);refine J _ a ?_;refine zhq w.B g _ _ (λb=>decide (b.owner>w.players\/b.id>=w.next)) _ (λb u R h=>ypz w b p _ a R h) _ ?_;refine Dg (Tt) (Cw o.1) (h _ ?_);rw[Fce,Fdi];constructor
 .intro n;refine⟨Z,⟨t,u,Z⟩,λb d=>?_⟩;have:=n b d;rw[decide_eq_true_iff]at this;omega
 .intro n b d;have:=n.2.2 b d;rw[decide_eq_true_iff];omega
def Ov(b:List (Int×Int))(c:List Nat)(a:Nat):AObj:=.map (b.map (qa int)) c a
def cy(m:Nat):AV:=.s (.map (Δ m))
def yh5(w:Wld)(hU:Γ w.U<=1000000)(P:yw w.U)(st:Store)(R:Ja)(h:∀z:Bool,(z=true↔∀u∈w.U,u.inn≠0->Ce w u)->R (V.bool z) st):Jb 111 [.agg (zo w)] st R:=by
 refine Qy 85 func111 ?_;refine Iy rfl (λm hm=>?_);have hhas:∀x,(st.sO m x).Has st:=λx=>Cw hm.1;have nof:∀x,¬(∀u∈w.U,u.inn≠0->Ce w u)->∃r b,AV.le (V.bool false) r/\(st.sO m x).Has b/\R r b:=λx hn=>Dg (Tt) (hhas x) (h false θ7)
 refine AWp.loop (σ:=Nat×List (Int×Int)×List Nat×Nat) ⟨λx=>[(1,.bx 1 0),(3,.av (cy m)),(11,.av (lst 10 zf w.U)),(12,.av (int (Γ w.U:Nat))),(13,.av (int (x.1:Nat)))],λ_=>[(1,zo w)],
  λx b=>x.1<=Γ w.U/\b=st.sO m (Ov x.2.1 x.2.2.1 x.2.2.2)/\(∀id,id≠0->(qe x.2.1 id).getD 0=((z6 (w.U.take x.1) id).length:Int))/\ii w x.1,λx=>Γ w.U-x.1⟩ zb ?_ ?_
 .refine⟨(0,[],[],0),O,⟨Fae _,rfl,λid _=>rfl,λj _ D=>Z,λx _ _=>(Mc _).1⟩,⟨Y,Y,Y,?_,Y,O⟩,⟨rfl,O⟩⟩;rw[<-zj (f:=zf) w.U];exact Y
 rintro⟨i,g,G,clk⟩ b ⟨hi,rfl,hcnt,n⟩;dsimp only at hi hcnt n⊢;refine bcd (λh1=>?_) (λh1=>?_);rotate_left
 .have:i=Γ w.U:=Z;subst this;exact Dg (Tt) (hhas _) (h true (by simp only[true_iff];exact yh7 n))
 have d:i<Γ w.U:=Z;have W:=Faa d;refine⟨i,rfl,J _ (zm d) ?_⟩;refine zp (λH=>?_) (λH=>?_)
 .refine Qd ?_;refine⟨(i+1,g,G,clk),?_,⟨ζ,rfl,λid E=>?_,λj D hji y=>?_,λx B C=>?_⟩,Qbt,⟨rfl,O⟩⟩
  .show Γ w.U-(i+1)<Γ w.U-i;omega
  .dsimp only;rw[hcnt id E,Ru d,if_neg (by rw[H];omega)];omega
  .by_cases e:j=i
   .subst e;exact absurd H y
   .exact n.1 j D ψl y
  .dsimp only;rw[Ru d,if_neg (by rw[H];omega)];have:=n.2 x B C;omega
 refine p7 w.U Z P w.U[i].inn _ _ (λk hk z hz=>?_);have nou:∀x,¬Ce w w.U[i]->∃r b,AV.le (V.bool false) r/\(st.sO m x).Has b/\R r b:=λx hn=>nof x λo=>hn (o _ W H);have found:Ce w w.U[i]->z=true:=λ⟨x,B,e,_⟩=>by
  obtain⟨j,D,rfl⟩:=Faj B;refine hz.2 ?_;have h5:j>=k:=Decidable.byContradiction λε=>by have:=hk.2.1 j D Z;omega
  have h7:k<Γ w.U:=Z;refine⟨h7,?_⟩;have h8:=hk.2.2 k h7 (Fai _);by_cases K:k=j
  .subst K;exact e
  .have:=Hd P (show k<j by omega) D;omega
 refine ya ?_;refine zg (λS=>?_) (λS=>nou _ λo=>by rw[found o]at S;cases S);obtain⟨A,a⟩:=hz.1 S;have uniq:Ce w w.U[i]->(w.U[k].inn=0/\w.U[k].owner=w.U[i].owner)/\((z6 w.U w.U[i].inn).length:Int)<=j6 w.U[k].kind:=λ⟨x,B,e,K,e3,_⟩=>by have:=Ke P B (Faa A) (by rw[e,a]);subst this;exact⟨K,e3⟩
 refine ky w.U[i].kind _ _ ?_;refine bcd (λc3=>nou _ λ⟨x,_,_,_,_,e,_⟩=>Z) (λc3=>?_);have hroom:j6 w.U[i].kind=0:=by have:=Mc w.U[i].kind;omega
 refine ya ?_;refine zg (λQ=>?_) (λQ=>nou _ λ⟨x,_,_,_,_,_,e,_⟩=>by rw[e]at Q;cases Q);have hpos:w.U[i].pos=(0,0):=by have:(w.U[i].pos.1==0&&(w.U[i].pos.2==0&&true))=true:=Q;simp at this;exact Prod.ext this.1 this.2
 refine qd (λc5=>nou _ λ⟨x,_,_,_,_,_,_,e,_⟩=>c5 e) (λc5=>?_);refine qd (λc6=>nou _ λ⟨x,_,_,_,_,_,_,_,e⟩=>c6 e) (λc6=>?_);refine⟨k,rfl,J _ (zm A) ?_⟩;have I:(st.sO m (Ov g G clk)).obj m=Δ (Ov g G clk):=zd _ _ _;refine Bi rfl (it:=ti308) (ie:=ti2) (ik:=ti2) rfl rfl rfl rfl I rfl (qA w.U[k].id) (λe he=>?_) ?_
 .obtain⟨e,_,rfl⟩:=Fag.1 he;rfl
 rw[Ie];have T:w.U[k].id≠0:=by rw[a];exact H
 have X:(Option.map int (qe g w.U[k].id)).getD (Fc ti2)=int ((z6 (w.U.take i) w.U[k].id).length:Int):=by rw[<-hcnt _ T];cases qe g w.U[k].id<;>rfl
 rw[X];have η:(z6 (w.U.take i) w.U[k].id).length<=1000000:=by have h1:=Rv (l:=w.U) i w.U[k].id;have h2:(z6 w.U w.U[k].id).length<=Γ w.U:=θl;omega
 refine Qd ?_;refine F6 (.inl rfl) rfl (it:=ti308) (ik:=ti2) rfl rfl rfl (es:=g.map (qa int)) (bs:=G) (clk:=clk) (k:=int w.U[k].id) (v:=int (((z6 (w.U.take i) w.U[k].id).length:Int)+1)) I rfl rfl (qA w.U[k].id) (λe he=>?_) (λe1 he hq=>?_) ?_
 .obtain⟨e,_,rfl⟩:=Fag.1 he;rfl
 .obtain⟨g1,_,rfl⟩:=Fag.1 he;have:w.U[k].id=g1.1:=by simpa [qA,qa,int]using hq
  show int g1.1=_;rw[this]
 obtain⟨t,c,p⟩:=L8 int g G clk w.U[k].id (((z6 (w.U.take i) w.U[k].id).length:Int)+1);have p:Aa (g.map (qa int)) G clk (qA w.U[k].id) (int w.U[k].id) (int (((z6 (w.U.take i) w.U[k].id).length:Int)+1))=Ov (yz g w.U[k].id (((z6 (w.U.take i) w.U[k].id).length:Int)+1)) t c:=p;rw[p,ym];have hmo2:(st.sO m (Ov (yz g w.U[k].id (((z6 (w.U.take i) w.U[k].id).length:Int)+1)) t c)).obj m=Δ (Ov (yz g w.U[k].id (((z6 (w.U.take i) w.U[k].id).length:Int)+1)) t c):=zd _ _ _;have hlook:Gl false (Fc ti2) (((yz g w.U[k].id (((z6 (w.U.take i) w.U[k].id).length:Int)+1)).map (qa int)).find? (qA w.U[k].id))=int (((z6 (w.U.take i) w.U[k].id).length:Int)+1):=by rw[Ie,Dr,if_pos rfl];rfl
 have hsucc:=Ru d w.U[k].id;rw[if_pos a.symm]at hsucc;have hcnt2:∀id,id≠0->(qe (yz g w.U[k].id (((z6 (w.U.take i) w.U[k].id).length:Int)+1)) id).getD 0=((z6 (w.U.take (i+1)) id).length:Int):=λid E=>by
  rw[Dr];by_cases e:id=w.U[k].id
  .rw[if_pos e,e,hsucc];rfl
  .rw[if_neg e,hcnt id E,Ru d,if_neg (by rw[<-a];exact Ne.symm e)];omega
 generalize yz g w.U[k].id (((z6 (w.U.take i) w.U[k].id).length:Int)+1)=cs2 at*;have over:j6 w.U[k].kind<((z6 (w.U.take i) w.U[k].id).length:Int)+1->¬Ce w w.U[i]:=λo hp=>by have h2:=(uniq hp).2;have h3:=Rv (l:=w.U) (i+1) w.U[k].id;rw[<-a]at h2;omega
 have good:w.U[k].inn=0->w.U[k].owner=w.U[i].owner->((z6 (w.U.take i) w.U[k].id).length:Int)+1<=j6 w.U[k].kind->ii w (i+1):=λe1 K e3=>by
  refine⟨λj D hji y=>?_,λx B C=>?_⟩
  .by_cases e:j=i
   .subst e;exact⟨w.U[k],Faa A,a,⟨e1,K⟩,hroom,hpos,c5,c6⟩
   .exact n.1 j D Z y
  .by_cases e:x.id=w.U[k].id
   .have:=Ke P B (Faa A) e;subst this;omega
   .rw[Ru d,if_neg (by rw[<-a];exact Ne.symm e)];have:=n.2 x B C;omega
 refine Qc zb yf8 ?_;refine qd (λM=>?_) (λM=>?_)
 .refine⟨⟨Qe,⟨⟨Qe,nou _ (λo=>M (uniq o).1.1)⟩,O⟩⟩,⟨⟨Qe,⟨⟨Qe,nou _ (λo=>M (uniq o).1.1)⟩,O⟩⟩,O⟩⟩
 refine qd (λL=>?_) (λL=>?_)
 .refine⟨⟨Qe,⟨⟨Qe,nou _ (λo=>L (uniq o).1.2)⟩,O⟩⟩,⟨⟨Qe,⟨⟨Qe,nou _ (λo=>L (uniq o).1.2)⟩,O⟩⟩,O⟩⟩
 refine⟨?_,?_,O⟩
 .refine Bi rfl (it:=ti308) (ie:=ti2) (ik:=ti2) rfl rfl rfl rfl hmo2 rfl (qA w.U[k].id) (λe he=>ψz) ?_;rw[hlook];refine⟨Qe,?_⟩;refine⟨ky w.U[k].kind _ _ ⟨Qe,?_⟩,O⟩;refine bcd (λc9=>nou _ (over Z)) (λc9=>?_);refine Qd ?_;refine⟨(i+1,cs2,t,c),?_,⟨ζ,rfl,hcnt2,good M L Z⟩,Qbt,⟨rfl,O⟩⟩;show Γ w.U-(i+1)<Γ w.U-i;omega
 .refine ky w.U[k].kind _ _ ⟨Qe,?_⟩;refine⟨?_,O⟩;refine Bi rfl (it:=ti308) (ie:=ti2) (ik:=ti2) rfl rfl rfl rfl hmo2 rfl (qA w.U[k].id) (λe he=>ψz) ?_;rw[hlook];refine⟨Qe,?_⟩;refine bcd (λc9=>nou _ (over Z)) (λc9=>?_);refine Qd ?_;refine⟨(i+1,cs2,t,c),?_,⟨ζ,rfl,hcnt2,good M L Z⟩,Qbt,⟨rfl,O⟩⟩;show Γ w.U-(i+1)<Γ w.U-i;omega
def tkO(b:List (Int×Bool))(c:List Nat)(a:Nat):AObj:=.map (b.map (qa V.bool)) c a
def ymg(w:Wld)(hw:w.fits)(hn:∀u∈w.U,u.pos.ok):Jb 47 [.agg (zo w)] Store.empty λr _=>∃z,r=V.bool z/\(z=true↔yd w):=by
 have no:¬yd w->∃z,V.bool false=V.bool z/\(z=true↔yd w):=λhn=>⟨false,rfl,δ⟩
 refine Qb (c:=cfg 87) zb func47 ?_;refine AWp.seq (AWp.of_vc zb ?_);refine AWp.seq (AWp.of_vc zb ?_);refine ypy w hw _ _ (λz y=>?_);refine ya ?_;refine zg (λc1=>?_) (λc1=>ret (no λq=>by have:=y.2 q.1.1;rw[this]at c1;cases c1));have hh:=y.1 c1;have hg:=hh.2.1.1;have I:=hh.2.1.2.1;have hBl:Γ w.B<=256:=I.1;have hU:Γ w.U<=4096:=hh.2.1.2.2;have τ:∀b∈w.B,yh b/\onP w.G b:=λb T=>⟨(I.2.2.1 b T).1,(I.2.2.1 b T).2.1⟩
 refine AWp.seq (AWp.of_vc zb ?_);refine Iy rfl (λm hm=>?_);refine AWp.meetA (σ:=List (Int×Bool)×List Nat×Nat) ⟨λ_=>[(1,.bx 1 0),(3,.av (cy m))],λ_=>[(1,zo w)],λx a=>a=Store.empty.sO m (tkO x.1 x.2.1 x.2.2)/\∀id,(qe x.1 id).getD false=true↔∃b∈w.B,b.id=id⟩ ?_ ?_
 .refine AWp.of_vc zb ?_
  refine AWp.loop (σ:=Nat×List (Int×Bool)×List Nat×Nat) ⟨λx=>[(1,.bx 1 0),(3,.av (cy m)),(16,.av (lst 6 zk w.B)),(17,.av (int (Γ w.B:Nat))),(18,.av (int (x.1:Nat)))],λ_=>[(1,zo w)],
   λx a=>x.1<=Γ w.B/\a=Store.empty.sO m (tkO x.2.1 x.2.2.1 x.2.2.2)/\∀id,(qe x.2.1 id).getD false=true↔∃b∈w.B.take x.1,b.id=id,λx=>Γ w.B-x.1⟩ zb ?_ ?_
  .refine⟨(0,[],[],0),O,⟨Fae _,rfl,λid=>⟨λh=>ω,λ⟨b,T,_⟩=>(by simp at T)⟩⟩,⟨Y,Y,Y,?_,Y,O⟩,⟨rfl,O⟩⟩;rw[<-zj (f:=zk) w.B];exact Y
  rintro⟨i,d,l,clk⟩ a ⟨hi,rfl,n⟩;dsimp only at hi n⊢;refine bcd (λX=>?_) (λX=>?_);rotate_left
  .have:i=Γ w.B:=Z;subst this;rw[Fal]at n;exact⟨(d,l,clk),⟨rfl,n⟩,⟨Y,Y,O⟩,⟨rfl,O⟩⟩
  have g:i<Γ w.B:=Z;refine⟨i,rfl,J _ (zm g) ?_⟩;have H:(Store.empty.sO m (tkO d l clk)).obj m=Δ (tkO d l clk):=zd _ _ _;refine F6 (.inl rfl) rfl (it:=ti214) (ik:=ti2) rfl rfl rfl (es:=d.map (qa V.bool)) (bs:=l) (clk:=clk) (k:=int w.B[i].id) (v:=V.bool true) H rfl rfl (qA w.B[i].id) (λe he=>?_) (λe1 he t=>?_) ?_
  .obtain⟨e,_,rfl⟩:=Fag.1 he;rfl
  .obtain⟨g1,_,rfl⟩:=Fag.1 he;grind[qA,qa,int]
  obtain⟨ε,E,o⟩:=L8 V.bool d l clk w.B[i].id true;have o:Aa (d.map (qa V.bool)) l clk (qA w.B[i].id) (int w.B[i].id) (V.bool true)=tkO (yz d w.B[i].id true) ε E:=o;rw[o,ym];refine Qd ?_;refine⟨(i+1,yz d w.B[i].id true,ε,E),?_,⟨ζ,rfl,λid=>?_⟩,Qbt,⟨rfl,O⟩⟩
  .grind
  .dsimp only;rw[Dr,Fab g];grind
 rintro⟨d,l,clk⟩ a ⟨rfl,n⟩;dsimp only at n⊢;have H:(Store.empty.sO m (tkO d l clk)).obj m=Δ (tkO d l clk):=zd _ _ _;have hhas:(Store.empty.sO m (tkO d l clk)).Has Store.empty:=Cw rfl;refine AWp.meetA (σ:=Unit) ⟨λ_=>[(1,.bx 1 0)],λ_=>[(1,zo w)],λ_ a=>a=Store.empty.sO m (tkO d l clk)/\I2 w (Γ w.U)⟩ ?_ ?_
 .refine AWp.of_vc zb ?_
  refine AWp.loop (σ:=Nat) ⟨λi=>[(1,.bx 1 0),(3,.av (cy m)),(27,.av (lst 10 zf w.U)),(28,.av (int (Γ w.U:Nat))),(29,.av (int (i:Nat)))],λ_=>[(1,zo w)],
   λi a=>i<=Γ w.U/\a=Store.empty.sO m (tkO d l clk)/\I2 w i,λi=>Γ w.U-i⟩ zb ?_ ?_
  .refine⟨0,O,⟨Fae _,rfl,λj _ C=>Z⟩,⟨Y,Y,Y,?_,Y,O⟩,⟨rfl,O⟩⟩;rw[<-zj (f:=zf) w.U];exact Y
  rintro i a ⟨hi,rfl,Q⟩;refine bcd (λX=>?_) (λX=>?_);rotate_left
  .have:i=Γ w.U:=Z;subst this;exact⟨(),⟨rfl,Q⟩,⟨Y,O⟩,⟨rfl,O⟩⟩
  have g:i<Γ w.U:=Z;have nou:¬((k9 w w.U[i]/\∀b∈w.B,b.id≠w.U[i].id)/\(0<i->(w.U[i-1]'Z).id<w.U[i].id))->∃z,V.bool false=V.bool z/\(z=true↔yd w):=λt=>no λq=>t (sr q.1.2 (i+1) i g Z);refine⟨i,rfl,J _ (zm g) ?_⟩;refine Qc zb ybg ?_;refine⟨yu9 w w.U[i] hg _ _ (λz y=>⟨O,?_⟩),O⟩;refine ya ?_;refine zg (λP=>?_) (λP=>⟨⟨O,ret (nou λq=>δ)⟩,O⟩);have hunt:=y.1 P;refine⟨Bi rfl (it:=ti214) (ie:=ti4) (ik:=ti2) rfl rfl rfl rfl H rfl (qA w.U[i].id) (λe he=>ψz) ?_,O⟩;rw[Ie];have ν:(Option.map V.bool (qe d w.U[i].id)).getD (Fc ti4)=V.bool ((qe d w.U[i].id).getD false):=by cases qe d w.U[i].id<;>rfl
  rw[ν];have htki:=n w.U[i].id;generalize(qe d w.U[i].id).getD false=tk at htki;refine⟨O,?_⟩;refine zg (λM=>ret (nou λq=>δ)) (λM=>?_);have υ:∀b∈w.B,b.id≠w.U[i].id:=λb T e=>δ;have next:(0<i->(w.U[i-1]'Z).id<w.U[i].id)->I2 w (i+1):=λt j C η=>by
   by_cases e:j=i
   .grind
   .exact Q j C Z
  have fin:I2 w (i+1)->yr ((i:Int)+1)/\(i+1<=Γ w.U/\Store.empty.sO m (tkO d l clk)=Store.empty.sO m (tkO d l clk)/\I2 w (i+1)):=λt=>⟨⟨Z,Z⟩,Z,rfl,t⟩
  refine bcd (λc4=>?_) (λc4=>?_)
  .have ι:0<i:=Z;refine Qd ?_;refine⟨i-1,Z,J _ (zm (show i-1<Γ w.U by omega)) ?_⟩;refine bcd (λc5=>ret (nou λq=>by have:=q.2 ι;omega)) (λc5=>?_);obtain⟨f1,f2⟩:=fin (next λ_=>Z);refine⟨f1,?_⟩;refine⟨i+1,?_,f2,Qbt,⟨rfl,O⟩⟩;grind
  .obtain⟨f1,f2⟩:=fin (next λh0=>absurd h0 Z);refine⟨f1,?_⟩;refine⟨i+1,?_,f2,Qbt,⟨rfl,O⟩⟩;grind
 rintro _ _ ⟨rfl,W⟩;have A:=ss W;refine AWp.leS hhas.toLe ?_;refine AWp.seq (AWp.of_vc zb ?_);refine yk4 w Z hn _ (λF s p L o0 o1 o2 hS ς hL=>?_);have π:=hL A.1;refine AWp.meetA (σ:=Unit) ⟨λ_=>[(1,.bx 1 0)],λ_=>[(1,zo w)],λ_ a=>∀u∈w.U,u.inn=0->qi w u.id u.kind u.pos⟩ ?_ ?_
 .refine AWp.of_vc zb ?_
  refine AWp.loop (σ:=Nat×Store×AV×AV×AV) ⟨λx=>[(1,.bx 1 0),(8,.av (ptr s)),(64,.av (lst 10 zf w.U)),(65,.av (int (Γ w.U:Nat))),(66,.av (int (x.1:Nat)))],λ_=>[(1,zo w)],
   λx a=>x.1<=Γ w.U/\a=x.2.1.un (stS s w x.2.2.1 x.2.2.2.1 x.2.2.2.2 p)/\StandAt x.2.1 s p w L x.2.2.1 x.2.2.2.1 x.2.2.2.2/\∀j,(C:j<Γ w.U)->j<x.1->w.U[j].inn=0->qi w w.U[j].id w.U[j].kind w.U[j].pos,λx=>Γ w.U-x.1⟩ zb ?_ ?_
  .refine⟨(0,F,o0,o1,o2),O,⟨Fae _,rfl,hS,λj _ C=>Z⟩,⟨Y,Y,Y,?_,Y,O⟩,⟨rfl,O⟩⟩;rw[<-zj (f:=zf) w.U];exact Y
  rintro⟨i,F1,a0,a1,a2⟩ a ⟨hi,rfl,K,S⟩;dsimp only at hi K S⊢;refine bcd (λX=>?_) (λX=>?_);rotate_left
  .have:i=Γ w.U:=Z;subst this;refine⟨(),λu hu h0=>?_,⟨Y,O⟩,⟨rfl,O⟩⟩;obtain⟨j,C,rfl⟩:=Faj hu;exact S j C C h0
  have g:i<Γ w.U:=Z;have R:=Faa g;have next:(w.U[i].inn=0->qi w w.U[i].id w.U[i].kind w.U[i].pos)->∀j,(C:j<Γ w.U)->j<i+1->w.U[j].inn=0->qi w w.U[j].id w.U[j].kind w.U[j].pos:=λt j C η=>δ
  refine⟨i,rfl,J _ (zm g) ?_⟩;refine zp (λP=>?_) (λP=>?_)
  .refine yad K hg Z τ A.1 Z hn ς π w.U[i].id w.U[i].kind w.U[i].pos (hn _ R) _ (λz F2 b0 b1 b2 y ο=>?_);refine ya ?_;refine zg (λM=>?_) (λM=>ret (no λq=>by have:=y.2 (q.2.1 _ R P);rw[this]at M;cases M));refine Qd ?_;refine⟨(i+1,F2,b0,b1,b2),?_,⟨ζ,rfl,ο,next λ_=>y.1 M⟩,Qbt,⟨rfl,O⟩⟩;grind
  .refine Qd ?_;refine⟨(i+1,F1,a0,a1,a2),?_,⟨ζ,rfl,K,next λh0=>absurd h0 P⟩,Qbt,⟨rfl,O⟩⟩;grind
 rintro _ a D;refine AWp.of_vc zb ?_;refine yh5 w Z A.1 _ _ (λz y=>?_);refine ret ⟨z,rfl,?_⟩;rw[y];exact⟨λt=>⟨⟨hh,A⟩,D,t⟩,λt=>t.2.2⟩
def Gn{f:FuncId}{xs:List AV}{Q:AV->Prop}(key:Jb f xs Store.empty λr _=>Q r)(c:Store)(R:Ja)(h:∀r,Q r->R r c):Jb f xs c R:=by
 rw[<-jx c];refine ACalls.post (ACalls.frame (R':=λr a=>Q r/\∃d,a=d.un c) (λb g=>?_) key λr d e _=>⟨e,d,rfl⟩) (Store.Le.refl _) λr a ⟨e,d,i⟩=>⟨r,c,Tt,i▸zj6,?_⟩
 .exact(g.elim (λh=>h rfl) (λh=>h rfl)).elim
 .exact h r e
def ymb(w:Wld)(c:w.fits)(d:∀u∈w.U,u.pos.ok)(a:Store)(R:Ja)(h:∀z:Bool,(z=true↔yd w)->R (V.bool z) a):Jb 47 [.agg (zo w)] a R:=
 Gn (ymg w c d) a R λr ⟨z,e,b⟩=>e▸h z b
def Pw(w:Wld)(o:Γ w.U<=1000000)(id:Int)(st:Store)(R:Ja)(h:R (int (Dp (w.U.findIdx? λu=>decide (u.id=id)))) st):Jb 33 [.agg (zo w),int id] st R:=by
 refine Qy 22 func33 ?_
 refine AWp.loop (σ:=Nat) ⟨λi=>[(1,.av (int id)),(2,.bx 2 0),(5,.av (int (i)))],λ_=>[(2,zo w)],
  λi c=>i<=Γ w.U/\c=st/\∀j,(b:j<Γ w.U)->j<i->w.U[j].id≠id,λi=>Γ w.U-i⟩ zb ?_ ?_
 .exact⟨0,O,⟨Fae _,rfl,λj _ b=>Z⟩,Qbt,⟨rfl,O⟩⟩
 rintro i c ⟨n,rfl,a⟩;refine zg (λf=>?_) (λf=>?_);rotate_left
 .have:i=Γ w.U:=qr f n;subst this;have e:(w.U.findIdx? λu=>decide (u.id=id))=Θ:=by
   rw[Fbx];intro x k;obtain⟨j,b,rfl⟩:=Faj k;exact decide_eq_false (a j b b)
  rw[e]at h;exact ret h
 have d:=ql f;refine⟨i,rfl,J _ (zm d) ?_⟩;refine zp (λg=>?_) (λg=>?_)
 .have e:(w.U.findIdx? λu=>decide (u.id=id))=Δ i:=by
   rw[Fa5];exact⟨d,decide_eq_true g,λj b=>by simpa using a j Z b⟩
  rw[e]at h;exact ret h
 .refine Qd ?_;refine⟨i+1,?_,⟨Z,rfl,λj b l=>?_⟩,Qbt,⟨rfl,O⟩⟩
  .show Γ w.U-(i+1)<Γ w.U-i;omega
  .by_cases e:j=i
   .subst e;exact g
   .exact a j b Z
def nh{l:List Unt}{i:Nat}(a:i<Γ l)(id:Int):z6 (l.take (i+1)) id=z6 (l.take i) id++(if l[i].inn=id then [l[i].id]else []):=by unfold z6;rw[Fab a,Fcu];by_cases h:l[i].inn=id<;>simp[h]
def ygz(w:Wld)(o:Γ w.U<=1000000)(id:Int)(st:Store)(R:Ja)(h:R (yq (z6 w.U id)) st):Jb 45 [.agg (zo w),int id] st R:=by
 refine Qy 32 func45 ?_
 refine AWp.loop (σ:=Nat×AV) ⟨λx=>[(1,.av (int id)),(2,.bx 2 0),(5,.av x.2),(6,.av (int (x.1:Nat)))],λ_=>[(2,zo w)],
  λx st'=>x.1<=Γ w.U/\App 1 st x.2 (rws zx (z6 (w.U.take x.1) id)) st',λx=>Γ w.U-x.1⟩ zb ?_ ?_
 .exact⟨(0,_),O,⟨Fae _,App.start 1 st⟩,⟨Y,Y,Y,Y,O⟩,⟨rfl,O⟩⟩
 rintro⟨i,v⟩ st' ⟨n,b⟩;refine zg (λd=>?_) (λd=>?_);rotate_left
 .have:i=Γ w.U:=qr d n;subst this;rw[Fal]at b;exact⟨_,st,AV.le_trans b.le (Tt),b.has,h⟩
 have a:=ql d;have c:=nh a id;have k:(z6 (w.U.take i) id).length<=1000000:=by have d:=Rv (l:=w.U) i id;have p:(z6 w.U id).length<=Γ w.U:=θl;omega
 refine⟨i,rfl,J _ (zm a) ?_⟩;refine zp (λf=>?_) (λf=>?_)
 .rw[if_pos f]at c;refine⟨i,rfl,J _ (zm a) ?_⟩;refine⟨ψ,?_⟩;refine Af (ie:=ti2) (rows':=[zx w.U[i].id]) b ?_ ?_ ⟨?_,?_⟩ (λg j e=>?_)
  .rfl
  .rfl
  .simp only[zj,Fao,ti2];omega
  .simp only[zj,Fao];omega
  refine Qd ?_;refine⟨(i+1,g),?_,⟨Z,?_⟩,Qbt,⟨rfl,O⟩⟩
  .show Γ w.U-(i+1)<Γ w.U-i;omega
  .rw[c];unfold rws;rw[Fa8];exact e
 .rw[if_neg f,Fbq]at c;refine Qd ?_;refine⟨(i+1,v),?_,⟨Z,?_⟩,Qbt,⟨rfl,O⟩⟩
  .show Γ w.U-(i+1)<Γ w.U-i;omega
  .rw[c];exact b
def iv(w:Wld)(y:zt w.G)(Q:Γ w.B<=1000000000000)(hb:∀b∈w.B,yh b/\onP w.G b)(hU:Γ w.U<=1000000)(hn:∀u∈w.U,u.pos.ok)(L:∀u∈w.U,vd u.kind)(id k:Int)(v:vd k)(q:Vc)(K:q.ok)(st:Store)(R:Ja)
  (h:∀z:Bool,(z=true↔qi w id k q)->R (V.bool z) st):Jb 44 [.agg (zo w),int id,int k,.agg (zr q)] st R:=by
 have no:¬qi w id k q->R (V.bool false) st:=λhh=>h false θ8;have H:=Cg k;have hplace:qi w id k q->qv q.1 q.2:=λhh=>by have n:=hh.1.1;have h2:=y.1;have h3:=y.2.1;unfold qv;omega
 refine Qy 79 func44 ?_;refine Df k v _ _ ?_;refine bcd (λX=>ret (no λhh=>ψm)) (λX=>?_);refine bcd (λW=>ret (no λhh=>ψm)) (λW=>?_);refine bcd (λT=>ret (no λhh=>ψm)) (λT=>?_);refine bcd (λS=>ret (no λhh=>ψm)) (λS=>?_);have e1:Int.negSucc 1099511627775=-1099511627776:=rfl;refine yib w.G y w.B Q hb (yk k) (Hp k) q (by unfold qv;omega) (zw k) ⟨H.1,Z⟩ _ _ (λz E=>?_);refine ya ?_;refine zg (λp=>?_) (λp=>ret (no λhh=>by have:=E.2 hh.1;rw[this]at p;cases p));have hfree:=E.1 p
 refine AWp.loop (σ:=Nat) ⟨λi=>[(1,.av (int id)),(4,.bx 4 0),(7,.bx 7 0),(9,.bx 9 0),(10,.av (int (i:Nat)))],λ_=>[(4,zo w),(7,zr q),(9,D6 k)],
  λi g=>i<=Γ w.U/\g=st/\∀j,(f:j<Γ w.U)->j<i->w.U[j].inn=0->w.U[j].id≠id->wt q (zw k) w.U[j].pos (zw w.U[j].kind)=true,λi=>Γ w.U-i⟩ zb ?_ ?_
 .exact⟨0,O,⟨Fae _,rfl,λj _ f=>Z⟩,Qbt,⟨rfl,rfl,rfl,O⟩⟩
 rintro i g ⟨P,rfl,a⟩;refine zg (λn=>?_) (λn=>?_);rotate_left
 .have:i=Γ w.U:=qr n P;subst this;refine ret (h true (by simp only[true_iff];refine⟨hfree,λu I A d=>?_⟩;obtain⟨j,f,rfl⟩:=Faj I;exact a j f f A d))
 have l:=ql n;have c:=Faa l;have next:(w.U[i].inn=0->w.U[i].id≠id->wt q (zw k) w.U[i].pos (zw w.U[i].kind)=true)->∀j,(f:j<Γ w.U)->j<i+1->w.U[j].inn=0->w.U[j].id≠id->wt q (zw k) w.U[j].pos (zw w.U[j].kind)=true:=λhh j f M=>by
  by_cases e:j=i
  .subst e;exact hh
  .exact a j f Z
 refine⟨i,rfl,J _ (zm l) ?_⟩;refine Qc zb ybh ?_;refine zp (λD=>?_) (λD=>?_);rotate_left
 .refine Qbw ?_;refine Qbx ?_;refine Qd ?_;refine⟨i+1,?_,⟨Z,rfl,next λA=>absurd A D⟩,Qbt,⟨rfl,rfl,rfl,O⟩⟩;show Γ w.U-(i+1)<Γ w.U-i;omega
 refine qd (λC=>?_) (λC=>?_);rotate_left
 .refine Qbw ?_;refine Qbx ?_;refine Qd ?_;refine⟨i+1,?_,⟨Z,rfl,next λ_ d=>absurd C d⟩,Qbt,⟨rfl,rfl,rfl,O⟩⟩;show Γ w.U-(i+1)<Γ w.U-i;omega
 have t:=Cg w.U[i].kind;refine⟨Df w.U[i].kind (L _ c) _ _ ⟨Qe,?_⟩,O⟩;refine⟨yjn q (zw k) w.U[i].pos (zw w.U[i].kind) K (hn _ c) ⟨H.1,Z⟩ ⟨t.1,Z⟩ _ _ ⟨O,?_⟩,O⟩;refine ya ?_;refine zg (λo=>?_) (λo=>ret (no λhh=>by have:=hh.2 _ c D C;rw[this]at o;cases o));refine Qd ?_;refine⟨i+1,?_,⟨Z,rfl,next λ_ _=>o⟩,Qbt,⟨rfl,rfl,rfl,O⟩⟩;show Γ w.U-(i+1)<Γ w.U-i;omega
def stOf{s g:Int}:(!((s==1)==(g !=-1)))=false↔(s=1↔g≠-1):=by by_cases b:s=1<;>by_cases a:g=-1<;>simp[bne,zhw,a]
def ym6(k:Int)(f:Store)(R:Ja)(h:∀z a b c d e,(z=true↔vd k)->R (.tup [.agg [int a,int b,int c,int d,int e],V.bool z]) f):Jb 67 [int k] f R:=
 zd9 k f R (λg=>h true _ _ _ _ _ (by simp only[true_iff];exact g)) (λg=>h false 0 0 0 0 0 (by simp only[Fan,false_iff];exact g))
def yh8(w:Wld)(hw:w.fits)(st:Store)(R:Ja)(h:∀z:Bool,(z=true↔Kp w/\Lg w)->R (V.bool z) st):Jb 43 [.agg (zo w)] st R:=by
 obtain⟨X,W,υ⟩:=hw;have no:¬(Kp w/\Lg w)->R (V.bool false) st:=λhh=>h false θ8;refine Qy 218 func43 ?_;refine ylf w.tick 1099511627776 _ _ (λz A=>?_);refine ya ?_;refine zg (λT=>?_) (λT=>ret (no λq=>by have:=A.2 q.1.1.1;rw[this]at T;cases T));have htick:=A.1 T;refine bcd (λc1=>ret (no λq=>by have:=q.1.1;omega)) (λc1=>?_);refine bcd (λc2=>ret (no λq=>by have:=q.1.1;omega)) (λc2=>?_);refine bcd (λc3=>ret (no λq=>by have:=q.1.1;omega)) (λc3=>?_);refine bcd (λc4=>ret (no λq=>by have:=q.1.1;omega)) (λc4=>?_);refine yi7 w.G X w.B W _ _ (λz A=>?_);refine ya ?_;refine zg (λS=>?_) (λS=>ret (no λq=>by have:=A.2 ⟨q.1.2.1.1,q.1.2.1.2.1⟩;rw[this]at S;cases S));obtain⟨hg,L⟩:=A.1 S;have hBl:Γ w.B<=256:=L.1;have hUl:((rws zf w.U).length:Int)=(Γ w.U:Int):=by rw[zj]
 refine bcd (λc6=>ret (no λq=>by have:=q.1.2.1.2.2;omega)) (λc6=>?_)
 refine AWp.loop (σ:=Nat) ⟨λi=>[(1,.bx 1 0),(3,.av (int (i:Nat)))],λ_=>[(1,zo w)],
  λi d=>i<=Γ w.B/\d=st/\∀j,(f:j<Γ w.B)->j<i->w.B[j].owner<=w.players/\w.B[j].id<w.next,λi=>Γ w.B-i⟩ zb ?_ ?_
 .exact⟨0,O,⟨Fae _,rfl,λj _ f=>Z⟩,⟨Y,Y,O⟩,⟨rfl,O⟩⟩
 rintro i d ⟨hi,rfl,n⟩;refine zg (λh1=>?_) (λh1=>?_)
 .have a:=ql h1;refine Qc zb ybl ?_;refine⟨i,rfl,J _ (zm a) ?_⟩;refine bcd (λc7=>ret (no λq=>by have:=q.1.2.2 _ (Faa a);omega)) (λc7=>?_);refine⟨i,rfl,J _ (zm a) ?_⟩;refine bcd (λc8=>ret (no λq=>by have:=q.1.2.2 _ (Faa a);omega)) (λc8=>?_);refine Qd ?_;refine⟨i+1,?_,⟨Z,rfl,λj f ν=>?_⟩,⟨Y,Y,O⟩,⟨rfl,O⟩⟩
  .show Γ w.B-(i+1)<Γ w.B-i;omega
  .by_cases e:j=i
   .subst e;omega
   .exact n j f Z
 have τ:i=Γ w.B:=qr h1 hi;subst τ;have hhead:Kp w:=⟨⟨htick,Z⟩,⟨hg,L,Z⟩,λb hb=>by obtain⟨j,f,rfl⟩:=Faj hb;exact n j f f⟩
 refine AWp.loop (σ:=Nat) ⟨λi=>[(1,.bx 1 0),(4,.av (int (i:Nat)))],λ_=>[(1,zo w)],
  λi g=>i<=Γ w.U/\g=d/\I2 w i,λi=>Γ w.U-i⟩ zb ?_ ?_
 .exact⟨0,O,⟨Fae _,rfl,λj _ f=>Z⟩,⟨Y,Y,O⟩,⟨rfl,O⟩⟩
 rintro i g ⟨hi,rfl,C⟩;refine zg (λh2=>?_) (λh2=>?_);rotate_left
 .have:i=Γ w.U:=qr h2 hi;subst this;exact ret (h true (by simp only[true_iff];exact⟨hhead,ss C⟩))
 have a:=ql h2;have nou:¬((k9 w w.U[i]/\∀b∈w.B,b.id≠w.U[i].id)/\(0<i->(w.U[i-1]'Z).id<w.U[i].id))->R (V.bool false) g:=λH=>no λq=>H (sr q.2 (i+1) i a Z);refine⟨i,rfl,J _ (zm a) ?_⟩;refine ym6 w.U[i].kind _ _ (λkz ka kb kc kd ke hk=>?_);refine Qc zb ybn ?_;have skip2:∀{p q:Prop},¬((k9 w w.U[i]/\∀b∈w.B,b.id≠w.U[i].id)/\(0<i->(w.U[i-1]'Z).id<w.U[i].id))->∃r d,AV.le (V.bool false) r/\g.Has d/\R r d:=λH=>ret (nou H);refine bcd (λc7=>⟨⟨O,⟨⟨O,ret (nou λq=>by have:=q.1.1.1;omega)⟩,O⟩⟩,O⟩) (λc7=>?_);refine bcd (λc8=>⟨⟨O,⟨⟨O,ret (nou λq=>by have:=q.1.1.1;omega)⟩,O⟩⟩,O⟩) (λc8=>?_);refine bcd (λc9=>?_) (λc9=>?_);refine Qd ?_;refine⟨i-1,Z,J _ (zm (show i-1<Γ w.U by omega)) ?_⟩;refine bcd (λο=>⟨⟨O,⟨⟨O,ret (nou λq=>by have:=q.2 Z;omega)⟩,O⟩⟩,O⟩) (λο=>?_);have hrise:0<i->(w.U[i-1]'Z).id<w.U[i].id:=λ_=>Z;rotate_left;have hrise:0<i->(w.U[i-1]'Z).id<w.U[i].id:=λh0=>absurd h0 Z
 all_goals
  refine bcd (λς=>⟨⟨O,⟨⟨O,ret (nou λq=>by have:=q.1.1.1.2.1;omega)⟩,O⟩⟩,O⟩) (λς=>?_);refine bcd (λπ=>⟨⟨O,⟨⟨O,ret (nou λq=>by have:=q.1.1.1.2.1;omega)⟩,O⟩⟩,O⟩) (λπ=>?_);refine ya ?_;refine zg (λQ=>?_) (λQ=>⟨⟨O,⟨⟨O,ret (nou λq=>by have:=hk.2 q.1.1.1.2.2;rw[this]at Q;cases Q)⟩,O⟩⟩,O⟩);have hkind:=hk.1 Q;refine qd (λt=>?_) (λt=>?_);refine⟨Pe w.G w.U[i].goal hg _ _ (λz1 y=>⟨O,?_⟩),O⟩;refine ya ?_;refine zg (λc=>?_) (λc=>⟨⟨O,ret (nou λq=>by have:=q.1.1.2.1.1;unfold Ak at this;have:=y.2 (this.resolve_left t);rw[this]at c;cases c)⟩,O⟩);have E:Ak w.G w.U[i].goal:=.inr (y.1 c);rotate_left;refine Qbx ?_;have E:Ak w.G w.U[i].goal:=.inl t
  all_goals
   refine qd (λo=>?_) (λo=>?_);refine⟨Pe w.G w.U[i].next hg _ _ (λz2 v=>⟨O,?_⟩),O⟩;refine ya ?_;refine zg (λl=>?_) (λl=>ret (nou λq=>by have:=q.1.1.2.1.2.1;unfold Ak at this;have:=v.2 (this.resolve_left o);rw[this]at l;cases l));have D:Ak w.G w.U[i].next:=.inr (v.1 l);rotate_left;refine Qbx ?_;have D:Ak w.G w.U[i].next:=.inl o
   all_goals
    refine bcd (λd1=>ret (nou λq=>by have:=q.1.1.2.1.2.2;omega)) (λd1=>?_);refine bcd (λd2=>ret (nou λq=>by have:=q.1.1.2.1.2.2;omega)) (λd2=>?_);refine bcd (λd3=>ret (nou λq=>by have:=q.1.1.2.2.1.1;omega)) (λd3=>?_);refine bcd (λd4=>ret (nou λq=>by have:=q.1.1.2.2.1.1;omega)) (λd4=>?_);refine zg (λP=>ret (nou λq=>by have:=stOf.2 q.1.1.2.2.1.2;rw[this]at P;cases P)) (λP=>?_);have ε:=stOf.1 P;have go:(w.U[i].goal=-1->w.U[i].next=-1/\w.U[i].stuck=0)->k9 w w.U[i]:=λH=>⟨⟨Z,Z,hkind⟩,⟨E,D,Z⟩,⟨Z,ε⟩,H⟩
    refine zp (λM=>?_) (λM=>?_);refine qd (λd7=>ret (nou λq=>d7 (q.1.1.2.2.2 M).1)) (λd7=>?_);refine qd (λd8=>ret (nou λq=>d8 (q.1.1.2.2.2 M).2)) (λd8=>?_);have hunt:=go λ_=>⟨d7,d8⟩
    rotate_left;have hunt:=go λe=>absurd e M
    all_goals
     refine AWp.loop (σ:=Nat) ⟨λk=>[(1,.bx 1 0),(4,.av (int (i:Nat))),(5,.bx 5 0),(8,.av (int (k:Nat)))],λ_=>[(1,zo w),(5,zf w.U[i])],
      λk u=>k<=Γ w.B/\u=g/\∀j,(f:j<Γ w.B)->j<k->w.B[j].id≠w.U[i].id,λk=>Γ w.B-k⟩ zb ?_ ?_
     .exact⟨0,O,⟨Fae _,rfl,λj _ f=>Z⟩,Qbt,⟨rfl,rfl,O⟩⟩
     rintro k u ⟨ι,rfl,I⟩;refine zg (λe1=>?_) (λe1=>?_)
     .have K:=ql e1;refine Qc zb ybm ?_;refine⟨k,rfl,J _ (zm K) ?_⟩;refine zp (λe2=>ret (nou λq=>q.1.2 _ (Faa K) e2)) (λe2=>?_);refine Qd ?_;refine⟨k+1,?_,⟨Z,rfl,λj f hjk=>?_⟩,Qbt,⟨rfl,rfl,O⟩⟩
      .show Γ w.B-(k+1)<Γ w.B-k;omega
      .by_cases e:j=k
       .subst e;exact e2
       .exact I j f Z
     have η:k=Γ w.B:=qr e1 ι;subst η;refine Qd ?_;refine⟨i+1,?_,⟨Z,rfl,λj f ν=>?_⟩,⟨Y,Y,O⟩,⟨rfl,O⟩⟩
     .show Γ w.U-(i+1)<Γ w.U-i;omega
     .by_cases e:j=i
      .subst e;refine⟨⟨hunt,λb hb=>?_⟩,hrise⟩;obtain⟨m,hm,rfl⟩:=Faj hb;exact I m hm hm
      .exact C j f Z
def Kd(w:Wld)(hw:w.fits)(hn:∀u∈w.U,u.pos.ok)(st:Store)(R:Ja)(h:∀z:Bool,(z=true↔yd w)->R (V.bool z) st):Jb 8 [.agg (zo w)] st R:=by
 have no:¬yd w->R (V.bool false) st:=λhh=>h false θ8;refine Qy 98 func8 ?_;refine yh8 w hw _ _ (λz v=>?_);refine ya ?_;refine zg (λI=>?_) (λI=>ret (no λq=>by have:=v.2 q.1;rw[this]at I;cases I));obtain⟨hh,o⟩:=v.1 I;have hg:=hh.2.1.1;have p:=hh.2.1.2.1;have ι:Γ w.B<=256:=p.1;have hU:Γ w.U<=4096:=hh.2.1.2.2;have Q:∀b∈w.B,yh b/\onP w.G b:=λb hb=>⟨(p.2.2.1 b hb).1,(p.2.2.1 b hb).2.1⟩
 have l:∀u∈w.U,vd u.kind:=λu y=>(o.2 u y).1.1.2.2
 refine AWp.loop (σ:=Nat) ⟨λi=>[(1,.bx 1 0),(3,.av (int (i:Nat)))],λ_=>[(1,zo w)],
  λi n=>i<=Γ w.U/\n=st/\∀j,(g:j<Γ w.U)->j<i->(w.U[j].inn=0->qi w w.U[j].id w.U[j].kind w.U[j].pos)/\(w.U[j].inn≠0->Ce w w.U[j]),λi=>Γ w.U-i⟩ zb ?_ ?_
 .exact⟨0,O,⟨Fae _,rfl,λj _ g=>Z⟩,⟨Y,Y,O⟩,⟨rfl,O⟩⟩
 rintro i n ⟨hi,rfl,f⟩;refine zg (λS=>?_) (λS=>?_);rotate_left
 .have:i=Γ w.U:=qr S hi;subst this;refine ret (h true (by
   simp only[true_iff];refine⟨⟨hh,o⟩,λu y C=>?_,λu y C=>?_⟩
   .obtain⟨j,g,rfl⟩:=Faj y;exact(f j g g).1 C
   .obtain⟨j,g,rfl⟩:=Faj y;exact(f j g g).2 C))
 have A:=ql S;have d:=Faa A;have next:((w.U[i].inn=0->qi w w.U[i].id w.U[i].kind w.U[i].pos)/\(w.U[i].inn≠0->Ce w w.U[i]))->∀j,(g:j<Γ w.U)->j<i+1->(w.U[j].inn=0->qi w w.U[j].id w.U[j].kind w.U[j].pos)/\(w.U[j].inn≠0->Ce w w.U[j]):=λL j g η=>by
  by_cases e:j=i
  .subst e;exact L
  .exact f j g Z
 refine⟨i,rfl,J _ (zm A) ?_⟩;refine zp (λD=>?_) (λD=>?_)
 .refine iv w hg Z Q Z hn l w.U[i].id w.U[i].kind (l _ d) w.U[i].pos (hn _ d) _ _ (λz v=>?_);refine ya ?_;refine zg (λH=>?_) (λH=>ret (no λq=>by have:=v.2 (q.2.1 _ d D);rw[this]at H;cases H));refine Qd ?_;refine⟨i+1,?_,⟨Z,rfl,next ⟨λ_=>v.1 H,λP=>absurd D P⟩⟩,⟨Y,Y,O⟩,⟨rfl,O⟩⟩;show Γ w.U-(i+1)<Γ w.U-i;omega
 have nou:¬Ce w w.U[i]->R (V.bool false) n:=λL=>no λq=>L (q.2.2 _ d D);refine Pw w Z w.U[i].inn _ _ ?_;cases hf:w.U.findIdx? λu=>decide (u.id=w.U[i].inn)with
 |none=>
  have M:¬Ce w w.U[i]:=λ⟨x,K,e,_⟩=>by rw[Fbx]at hf;have:=hf x K;rw[decide_eq_false_iff_not]at this;exact this e
  refine Qc zb zaj ?_;exact⟨⟨Qe,⟨⟨Qe,⟨⟨Qe,ret (nou M)⟩,O⟩⟩,O⟩⟩,O⟩
 |some k=>
  rw[Fa5]at hf;obtain⟨a,c,_⟩:=hf;have c:=of_decide_eq_true c;have uniq:Ce w w.U[i]->(w.U[k].inn=0/\w.U[k].owner=w.U[i].owner)/\((z6 w.U w.U[i].inn).length:Int)<=j6 w.U[k].kind:=λ⟨x,K,e,e2,e3,_⟩=>by have:=Ke o.1 K (Faa a) (by rw[e,c]);subst this;exact⟨e2,e3⟩
  refine Qc zb zaj ?_;refine⟨k,rfl,J _ (zm a) ?_⟩;refine qd (λX=>⟨⟨Qe,⟨⟨Qe,⟨⟨Qe,ret (nou (λq=>X (uniq q).1.1))⟩,O⟩⟩,O⟩⟩,O⟩) (λX=>?_);refine⟨k,rfl,J _ (zm a) ?_⟩;refine qd (λW=>⟨⟨Qe,⟨⟨Qe,⟨⟨Qe,ret (nou (λq=>W (uniq q).1.2))⟩,O⟩⟩,O⟩⟩,O⟩) (λW=>?_);refine⟨Df w.U[i].kind (l _ d) _ _ ⟨Qe,?_⟩,O⟩;refine bcd (λc6=>⟨⟨Qe,⟨⟨Qe,ret (nou (λ⟨x,_,_,_,_,e,_⟩=>Z))⟩,O⟩⟩,O⟩) (λc6=>?_);have hroom:j6 w.U[i].kind=0:=by have:=Mc w.U[i].kind;omega
  refine⟨k,rfl,J _ (zm a) ?_⟩;refine⟨ygz w Z w.U[i].inn _ _ ⟨?_,?_⟩,O⟩
  .repeat(first|exact O|refine⟨rfl,?_⟩|refine⟨⟨k,rfl,J _ (zm a) rfl⟩,?_⟩)
  refine⟨Df w.U[k].kind (l _ (Faa a)) _ _ ⟨?_,?_⟩,O⟩
  .repeat(first|exact O|refine⟨rfl,?_⟩)
  have ε:((rws zx (z6 w.U w.U[i].inn)).length:Int)=((z6 w.U w.U[i].inn).length:Int):=by rw[zj]
  refine bcd (λc7=>ret (nou λq=>by have:=(uniq q).2;omega)) (λc7=>?_);refine ya ?_;refine zg (λE=>?_) (λE=>ret (nou λ⟨x,_,_,_,_,_,e,_⟩=>by rw[e]at E;cases E));have hpos:w.U[i].pos=(0,0):=by have:(w.U[i].pos.1==0&&(w.U[i].pos.2==0&&true))=true:=E;simp at this;exact Prod.ext this.1 this.2
  refine qd (λT=>ret (nou λ⟨x,_,_,_,_,_,_,e,_⟩=>T e)) (λT=>?_);refine qd (λt=>ret (nou λ⟨x,_,_,_,_,_,_,_,e⟩=>t e)) (λt=>?_);refine Qd ?_;refine⟨i+1,?_,⟨Z,rfl,next ⟨λC=>absurd C D,λ_=>⟨w.U[k],Faa a,c,⟨X,W⟩,Z,hroom,hpos,T,t⟩⟩⟩,⟨Y,Y,O⟩,⟨rfl,O⟩⟩;show Γ w.U-(i+1)<Γ w.U-i;omega
def ys4(l:List UInt8)(hl:Γ l<=1000000000000)(st:Store)(R:Ja)(h:R (lst 1 u8C l) st):Jb 154 [lst 1 u8C l] st R:=by
 refine Qy 19 func154 ?_;refine AWp.loop (σ:=Nat×AV) ⟨λs=>[(0,.av (lst 1 u8C l)),(3,.av s.2),(4,.av (int s.1))],λ_=>[],λs st'=>s.1<=Γ l/\App 1 st s.2 (rws u8C (l.take s.1)) st',λs=>Γ l-s.1⟩ zb ?_ ?_
 .exact⟨(0,_),O,⟨Fae _,App.start 1 st⟩,⟨Y,Y,Y,O⟩,O⟩
 .rintro⟨i,v⟩ st' ⟨f,d⟩;refine zg (λe=>?_) (λe=>?_)
  .have a:i<Γ l:=ql e;refine⟨i,rfl,J _ (zm a) ?_⟩;refine⟨ψ,?_⟩;refine Af (ie:=ti5) (rows':=[u8C l[i]]) d ?_ ?_ ⟨?_,?_⟩ (λv2 st2 c=>?_)
   .rfl
   .rfl
   .simp[zj,ti5];omega
   .simp[zj];omega
   .refine⟨⟨Z,Z⟩,?_⟩;refine⟨(i+1,v2),?_,⟨a,?_⟩,Qbt,O⟩
    .show Γ l-(i+1)<Γ l-i;omega
    .rw[<-Vw a];exact c
  .have b:i=Γ l:=qr e f;subst b;refine⟨_,st,AV.le_trans d.le ?_,d.has,h⟩;rw[Fal];exact Tt
def zgt(l:List Bld)(hl:Γ l<=1000000000000)(st:Store)(R:Ja)(h:R (lst 6 zk l) st):Jb 320 [lst 6 zk l] st R:=by
 refine Qy 19 func320 ?_;refine AWp.loop (σ:=Nat×AV) ⟨λs=>[(0,.av (lst 6 zk l)),(3,.av s.2),(4,.av (int s.1))],λ_=>[],λs st'=>s.1<=Γ l/\App 6 st s.2 (rws zk (l.take s.1)) st',λs=>Γ l-s.1⟩ zb ?_ ?_
 .exact⟨(0,_),O,⟨Fae _,App.start 6 st⟩,⟨Y,Y,Y,O⟩,O⟩
 .rintro⟨i,v⟩ st' ⟨f,d⟩;refine zg (λe=>?_) (λe=>?_)
  .have a:i<Γ l:=ql e;refine⟨i,rfl,J _ (zm a) ?_⟩;refine⟨ψ,?_⟩;refine Af (ie:=ti61) (rows':=[zk l[i]]) d ?_ ?_ ⟨?_,?_⟩ (λv2 st2 c=>?_)
   .rfl
   .rfl
   .simp[zj,ti61];omega
   .simp[zj];omega
   .refine⟨⟨Z,Z⟩,?_⟩;refine⟨(i+1,v2),?_,⟨a,?_⟩,Qbt,O⟩
    .show Γ l-(i+1)<Γ l-i;omega
    .rw[<-Vw a];exact c
  .have b:i=Γ l:=qr e f;subst b;refine⟨_,st,AV.le_trans d.le ?_,d.has,h⟩;rw[Fal];exact Tt
def cu(g:Gnd)(a:g.fits)(st:Store)(R:Ja)(h:R (.agg (zq g)) st):Jb 86 [.agg (zq g)] st R:=by refine Qy 10 func86 ?_;refine ys4 g.T a _ _ ?_;exact ret h
def yrd(a b:List UInt8)(t:Γ a<=1000000000000)(st:Store)(R:Ja)(h:R (bool (decide (a=b))) st):Jb 128 [lst 1 u8C a,lst 1 u8C b] st R:=by
 refine Qy 26 func128 ?_;refine zg (λo=>?_) (λo=>?_)
 .have:a≠b:=λg=>zdc o (by rw[g]);rw[show decide (a=b)=false by simp[this]]at h;exact⟨_,st,Tt,Store.Has.refl st,h⟩
 .have hl:Γ a=Γ b:=cj o;refine AWp.loop (σ:=Nat) ⟨λi=>[(0,.av (lst 1 u8C a)),(1,.av (lst 1 u8C b)),(5,.av (int i))],λ_=>[],λi c=>i<=Γ a/\a.take i=b.take i/\c=st,λi=>Γ a-i⟩ zb ?_ ?_
  .exact⟨0,O,⟨Fae _,rfl,rfl⟩,Qbt,O⟩
  .rintro i c ⟨p,f,d⟩;refine zg (λg=>?_) (λg=>?_)
   .have e:i<Γ a:=ql g;have hltb:i<Γ b:=Z;refine Qc zb yf6 ?_;refine⟨i,rfl,J _ (zm e) ?_⟩;refine⟨i,rfl,J _ (zm hltb) ?_⟩;refine zg (λj=>?_) (λj=>?_)
    .have k:a[i]≠b[i]:=by
      intro n;rw[n]at j;simp at j
     have:a≠b:=by intro n;subst n;exact k rfl
     rw[show decide (a=b)=false by simp[this]]at h;subst d;exact⟨_,c,Tt,Store.Has.refl c,h⟩
    .refine⟨⟨Z,Z⟩,?_⟩;refine⟨i+1,?_,⟨e,?_,d⟩,Qbt,O⟩
     .show Γ a-(i+1)<Γ a-i;omega
     .rw[Fab e,Fab hltb,f];have:a[i]=b[i]:=UInt8.toNat_inj.1 (by have:=j;simp at this;omega);rw[this]
   .have l:i=Γ a:=qr g p;subst l d;have:a=b:=by
     rw[Fal,hl,Fal]at f;exact f
    rw[show decide (a=b)=true by simp[this]]at h;exact⟨_,c,Tt,Store.Has.refl c,h⟩
def yrb(a b:Gnd)(c:a.fits)(st:Store)(R:Ja)(h:R (V.bool (decide (a=b))) st):Jb 64 [.agg (zq a),.agg (zq b)] st R:=by
 refine Qy 24 func64 ?_;refine zg (λh1=>?_) (λh1=>⟨_,st,Tt,Store.Has.refl st,isF h (decide_eq_false λe=>θi)⟩);refine zg (λd=>?_) (λh1=>⟨_,st,Tt,Store.Has.refl st,isF h (decide_eq_false λe=>θi)⟩);refine yrd a.T b.T c _ _ ?_;refine⟨_,st,Tt,Store.Has.refl st,?_⟩;have e:decide (a.T=b.T)=decide (a=b):=by
  rw[Fbm];simp only[decide_eq_true_eq]at*;constructor
  .cases a;simp_all
  .rintro rfl;rfl
 rw[<-e]at h;exact h
def Qag{p:Prop}(h:p:=by rw[q2];omega):p:=h
def yl2(g:Gnd)(a:zt g)(t:Nat)(d:(t:Int)<g.W*g.H)(st:Store)(R:Ja)(h:R (.agg (zr (tx g t+32768,ty g t+32768))) st):Jb 296 [.agg (zq g),int (t:Nat)] st R:=by have c:=Dc a d;have b:=Ga (t:=t) a.1.1;have hq2:=Gb (t:=t) a.1.1;have f:=a.1;have e:=a.2.1;unfold tx ty at h;refine Qy 18 func296 ?_;refine Qc zb yc1 ?_;refine⟨Z,?_⟩;refine ze (by rw[b];omega) ?_;refine ze (by rw[b];omega) ?_;refine⟨Z,?_⟩;refine ze θm ?_;refine ze θm ?_;refine ze θm ?_;refine Qbw ?_;rw[<-b,<-hq2]at h;exact ret h
def Wt(g:Gnd)(d:zt g)(t:Nat)(c:(t:Int)<g.W*g.H)(x:Int)(b:x=(t:Int))(a:Store)(R:Ja)(h:R (.agg (zr (tx g t+32768,ty g t+32768))) a):Jb 296 [.agg (zq g),int x] a R:=by subst b;exact yl2 g d t c a R h
def Wu(g:Gnd)(b:zt g)(t:Nat)(d:t<Γ g.T)(x:Int)(c:x=(t:Int))(a:Store)(R:Ja)(h:R (.agg (zr (ye g t))) a):Jb 296 [.agg (zq g),int x] a R:=
 Wt g b t (by have:=qg b;omega) x c a R h
def Kx(g:Gnd)(a:zt g)(t:Nat)(k:t<Γ g.T)(d:Int)(b:d=(t:Int))(st:Store)(R:Ja)(h:R (.agg (zr (ye g t))) st):Jb 23 [.agg (zq g),int d] st R:=by subst b;have l:=qg a;have e:=Dc a (t:=t) Z;have f:=Ga (t:=t) a.1.1;have c:=Gb (t:=t) a.1.1;have j:=a.1;have i:=a.2.1;unfold ye tx ty at h;rw[<-f,<-c]at h;refine Qy 18 func23 ?_;refine Qc zb ydr ?_;refine⟨Z,?_⟩;refine Qd ?_;refine Qd ?_;refine⟨Z,?_⟩;refine Qd ?_;refine Qd ?_;refine Qd ?_;refine Qbw ?_;exact ret h
def yjc(g:Gnd)(b:zt g)(p:Vc)(i:(0<=p.1/\p.1<g.W*65536)/\(0<=p.2/\p.2<g.H*65536))(st:Store)(R:Ja)(h:R (int (wh g p:Nat)) st):Jb 332 [.agg (zq g),.agg (zr p)] st R:=by
 have f:=b.1;have e:=b.2.1;obtain⟨j,n,_⟩:=f7 b i;have l:=qg b;refine Qy 39 func332 ?_;refine bcd (λa=>absurd a Z) (λa=>?_);refine Qd ?_;refine bcd (λa=>absurd a Z) (λa=>?_);refine bcd (λa=>absurd a Z) (λa=>?_);refine Qd ?_;refine bcd (λa=>absurd a Z) (λa=>?_);have c:p.1.tdiv 65536=p.1/65536:=Fat Z;have q2:p.2.tdiv 65536=p.2/65536:=Fat Z;have k:0<=p.1/65536/\p.1/65536<=128:=Z;have d:0<=p.2/65536/\p.2/65536<=128:=Z;have hm:0<=g.W*(p.2/65536)/\g.W*(p.2/65536)<=128*128:=⟨Fax Z d.1,Fa9 f.2 d.2 d.1 ψ⟩
 refine⟨ψ,?_⟩;refine ze (by rw[c];omega) ?_;refine⟨ψ,?_⟩;refine ze Qag ?_;refine ze Qag ?_;refine ze (by rw[c,q2];omega) ?_;rw[c,q2,<-j];exact ret h
def zj5(g:Gnd)(b:zt g)(p:Vc)(i:(0<=p.1/\p.1<g.W*65536)/\(0<=p.2/\p.2<g.H*65536))(st:Store)(R:Ja)(h:R (int (wh g p:Nat)) st):Jb 309 [.agg (zq g),.agg (zr p)] st R:=by
 have f:=b.1;have e:=b.2.1;obtain⟨j,n,_⟩:=f7 b i;have l:=qg b;refine Qy 39 func309 ?_;refine bcd (λa=>absurd a Z) (λa=>?_);refine Qd ?_;refine bcd (λa=>absurd a Z) (λa=>?_);refine bcd (λa=>absurd a Z) (λa=>?_);refine Qd ?_;refine bcd (λa=>absurd a Z) (λa=>?_);have c:p.1.tdiv 65536=p.1/65536:=Fat Z;have q2:p.2.tdiv 65536=p.2/65536:=Fat Z;have k:0<=p.1/65536/\p.1/65536<=128:=Z;have d:0<=p.2/65536/\p.2/65536<=128:=Z;have hm:0<=g.W*(p.2/65536)/\g.W*(p.2/65536)<=128*128:=⟨Fax Z d.1,Fa9 f.2 d.2 d.1 ψ⟩
 refine⟨ψ,?_⟩;refine ze (by rw[c];omega) ?_;refine⟨ψ,?_⟩;refine ze Qag ?_;refine ze Qag ?_;refine ze (by rw[c,q2];omega) ?_;rw[c,q2,<-j];exact ret h
section
variable {G:Store} {s p:Nat} {w:Wld} {v o0 o1 o2:AV}
def yv{i:TI}{cells row a:List AV}{K:LV->Prop}(d:Dn i.ty=true)(b:i.size=Γ row)(c:cells=row++a)(h:K (.av (.agg row))):partK i cells K:=by subst c;unfold partK;rw[d,b];have:Nat.ble (Γ row) (row++a).length=true:=φ;rw[this];refine Cz ?_;rw[Fb6 (Fai _),Fal];exact h
theorem xx{α:Type}{k:Nat}{f:α->List AV}(b:∀x,(f x).length=k){l:List α}{L:List AV}{i:Nat}(a:i<Γ l):List.drop (0+i*k) ((rws f l).flatten++L)=f l[i]++((rws f (l.drop (i+1))).flatten++L):=by
 have c:(rws f (l.take i)).flatten.length=i*k:=by rw[qu b,Fah,Fd8 Z]
 rw[Fbd,Po a,Faq,<-c,List.drop_left,Faq]
def ytv{S:Store}(R:Ja)(h:∀F p,wv F p []->zl F S->R (ptr p) (F.un S)):Jb 183 [] S R:=by
 have:=ACalls.frame (λi b=>by rcases b with b|b<;>exact absurd rfl b) (zg9 (λr c=>∃p,r=ptr p/\wv c p []) (λa p h=>⟨p,rfl,h⟩)) (λr c ⟨p,e,f⟩ d=>e▸h c p f d)
 rwa [jx]at this
def svC(w:Wld)(v o0 o1 o2:AV)(p:Nat):List AV:=zy w v++[o0,o1,o2,ptr p]
def svS(G:Store)(s:Nat)(w:Wld)(v o0 o1 o2:AV)(p:Nat):Store:=G.sO s (.cells (svC w v o0 o1 o2 p))
structure StandR(F G:Store)(s p:Nat)(w:Wld)(v:AV)(L:List Ent)(o0 o1 o2:AV):Prop where
 hc:wv F p L
 hd:zl F (svS G s w v o0 o1 o2 p)
 hs:G.obj s=Θ
 hu:RowsQ 10 zf G v w.U
 h0:Np w 0 o0
 h1:Np w 1 o1
 h2:Np w 2 o2
def By(G:Store)(s:Nat)(w:Wld)(v o0 o1 o2:AV)(p:Nat):(svS G s w v o0 o1 o2 p).obj s=Δ (.cells (svC w v o0 o1 o2 p)):=zd _ _ _
def I5{u:AV}{l:List Unt}(d:G.obj s=Θ)(h:RowsQ 10 zf G u l):RowsQ 10 zf (svS G s w v o0 o1 o2 p) u l:=by
 rcases h with(h|⟨b,c,L,g,a,f⟩)|h
 .exact .inl (.inl h)
 .refine .inl (.inr ⟨b,c,L,g,?_,f⟩);have:b≠s:=λe=>by subst e;rw[d]at a;cases a
  show(G.sO s _).obj b=_;rw[zi this];exact a
 .exact .inr h
def svS_has{i:Nat}:(svS G s w v o0 o1 o2 p).has i↔i=s\/G.has i:=by
 unfold svS Store.has;by_cases hi:i=s
 .subst hi;simp[zd]
 .rw[zi hi];simp[hi,Store.sO]
def o5{F:Store}{a:Wld}{b e d c:AV}(h:zl F (svS G s w v o0 o1 o2 p)):zl F (svS G s a b e d c p):=λi g f=>h i g (svS_has.2 (svS_has.1 f))
def zct(w:Wld)(v:AV)(G:Store)(f:RowsQ 10 zf G v w.U)(hU:Γ w.U<=1000000)(hn:∀u∈w.U,u.pos.ok)(R:Ja)
  (h:∀F s p L o0 o1 o2,Fresh G s->StandR F G s p w v L o0 o1 o2->Γ L<=Γ w.U->(yw w.U->∀e,e∈L↔∃u∈w.U,u.inn=0/\e=(u.id,u.pos))->R (ptr s) (F.un (svS G s w v o0 o1 o2 p))):Jb 109 [.agg (zy w v)] G R:=by
 obtain⟨A,k,hv,E⟩:=f.form;subst hv;refine Qa (c:=cfg 31 [9] []) zb func109 ?_;refine Qc zb zax ?_;refine⟨ytv _ (λF p hc W=>⟨Qe,?_⟩),O⟩;refine⟨λs hs=>⟨O,?_⟩,O⟩;refine Qbx ?_;have z:¬F.has s/\¬G.has s:=by have:=fresh_iff.1 hs;exact⟨λh=>this (un_has.2 (.inl h)),λh=>this (un_has.2 (.inr h))⟩
 have y:G.obj s=Θ:=(jt z.2).1;have e0:(F.un G).sO s (.cells (svC w (.s (.slice A (Γ w.U) k)) (.s (.slice Θ 0 0)) (.s (.slice Θ 0 0)) (.s (.slice Θ 0 0)) p))=F.un (svS G s w (.s (.slice A (Γ w.U) k)) (.s (.slice Θ 0 0)) (.s (.slice Θ 0 0)) (.s (.slice Θ 0 0)) p):=by exact z8 F G s _
 have h0:StandR F G s p w (.s (.slice A (Γ w.U) k)) [] (.s (.slice Θ 0 0)) (.s (.slice Θ 0 0)) (.s (.slice Θ 0 0)):=⟨hc,λi S K=>by
  rcases svS_has.1 K with rfl|K
  .exact z.1 S
  .exact W i S K,y,f,.inl rfl,.inl rfl,.inl rfl⟩
 have T:Fresh G s:=fresh_iff.2 z.2
 refine AWp.loop (σ:=Nat×Store×List Ent) ⟨λq=>[(3,.av (ptr s)),(11,.av (.s (.slice A (Γ w.U) k))),(12,.av (int (Γ w.U:Nat))),(13,.av (int (q.1:Nat)))],λ_=>[],
  λq C=>C=q.2.1.un (svS G s w (.s (.slice A (Γ w.U) k)) (.s (.slice Θ 0 0)) (.s (.slice Θ 0 0)) (.s (.slice Θ 0 0)) p)/\StandR q.2.1 G s p w (.s (.slice A (Γ w.U) k)) q.2.2 (.s (.slice Θ 0 0)) (.s (.slice Θ 0 0)) (.s (.slice Θ 0 0))/\q.1<=Γ w.U/\Γ q.2.2<=q.1/\(∀e∈q.2.2,e.2.ok)/\(yw w.U->∀e,e∈q.2.2↔∃u∈w.U.take q.1,u.inn=0/\e=(u.id,u.pos)),λq=>Γ w.U-q.1⟩ zb ?_ ?_
 .exact⟨(0,F,[]),O,⟨e0,h0,Fae _,Fai _,λe n=>(by cases n),λ_ e=>φ⟩,Qbt,O⟩
 rintro⟨i,M,L⟩ C ⟨rfl,H,hi,hL,t,hmem⟩;dsimp only at H hi hL t hmem⊢;refine bcd (λS=>?_) (λS=>?_);rotate_left
 .have:i=Γ w.U:=Z;subst this;rw[Fal]at hmem;exact ret (h M s p L _ _ _ T H hL hmem)
 have g:i<Γ w.U:=Z;obtain⟨b,d,rfl,l⟩:=E i g;have X:b≠s:=λe=>by subst e;rw[y]at l;cases l
 have V:(M.un (svS G s w (.s (.slice (Δ ⟨b,0,Θ⟩) (Γ w.U) k)) (.s (.slice Θ 0 0)) (.s (.slice Θ 0 0)) (.s (.slice Θ 0 0)) p)).obj b=Δ (.cells ((rws zf w.U).flatten++d)):=zh (by show(G.sO s _).obj b=_;rw[zi X];exact l);refine⟨i,rfl,g,?_⟩;refine J (o:=(M.un (svS G s w _ _ _ _ p)).obj b) _ V ?_;refine yv (i:=ti72) (row:=zf w.U[i]) rfl rfl (xx yx g) ?_;have D:=hn w.U[i] (Faa g);refine zp (λc1=>?_) (λc1=>?_)
 .refine Qc zb zaw ?_;refine J (o:=(M.un (svS G s w _ _ _ _ p)).obj s) _ (zh (By G s w _ _ _ _ p)) ?_;refine⟨pr H.hc H.hd Z t w.U[i].id w.U[i].pos D _ (λF2 K B=>⟨O,?_⟩),O⟩;have hlen:(qz L w.U[i].id++[(w.U[i].id,w.U[i].pos)]).length<=i+1:=by
   rw[Fad];have:(qz L w.U[i].id).length<=Γ L:=Fbl _ _;simp only[Fao];omega
  refine Qd ?_;refine⟨(i+1,F2,_),?_,⟨rfl,⟨K,B,y,f,.inl rfl,.inl rfl,.inl rfl⟩,ζ,hlen,λe n=>?_,λP e=>?_⟩,⟨Y,Y,Y,Y,O⟩,O⟩
  .show Γ w.U-(i+1)<Γ w.U-i;omega
  .rcases Faw.1 n with n|n
   .exact t e (mem_dropId.1 n).1
   .simp at n;subst n;exact D
  .dsimp only;rw[Fab g,Faw,mem_dropId,hmem P e];constructor
   .rintro(⟨⟨u,f,I⟩,_⟩|n)
    .exact⟨u,Faw.2 (.inl f),I⟩
    .simp at n;exact⟨w.U[i],Faw.2 (.inr φ),c1,n⟩
   .rintro⟨u,f,I,Q⟩;rcases Faw.1 f with f|f
    .refine .inl ⟨⟨u,f,I,Q⟩,?_⟩;obtain⟨j,hj,rfl⟩:=Faj f;rw[Fah]at hj;rw[Fdt]at Q;have:=V4 P (a:=j) (b:=i) Z g;subst Q;show w.U[j].id≠w.U[i].id;omega
    .simp at f;subst f;exact .inr (by simp[Q])
 .refine Qd ?_;refine⟨(i+1,M,L),?_,⟨rfl,H,Z,ζ,t,λP e=>?_⟩,Qbt,O⟩
  .show Γ w.U-(i+1)<Γ w.U-i;omega
  .rw[hmem P e,Fab g];constructor
   .rintro⟨u,f,B⟩;exact⟨u,Faw.2 (.inl f),B⟩
   .rintro⟨u,f,B,I⟩;rcases Faw.1 f with f|f
    .exact⟨u,f,B,I⟩
    .simp at f;subst f;exact absurd B c1
end
section
variable {F G:Store} {s p:Nat} {w:Wld} {v o0 o1 o2:AV}
def zzz{L:List Ent}(d:StandR F G s p w v L o0 o1 o2)(n:zt w.G)(D:Γ w.B<=1000000000000)(hb:∀b∈w.B,yh b/\onP w.G b)(c:Int)(C:c=0\/c=1\/c=2)(R:Ja)
  (h:∀I H E,StandR F G s p w v L I H E->R (opV w.G w.B c) (F.un (svS G s w v I H E p))):Jb 187 [ptr s,int c] (F.un (svS G s w v o0 o1 o2 p)) R:=by
 have f:=zh (a:=F) (By G s w v o0 o1 o2 p);obtain⟨T,P,y⟩:=Fo n w.B 0;obtain⟨S,M,u⟩:=Fo n w.B 1;obtain⟨Q,K,t⟩:=Fo n w.B 2;rcases C with rfl|rfl|rfl
 .rcases d.h0 with e|e
  .subst e;refine Qy 35 func187 ?_;refine⟨0,rfl,ψ,?_⟩;refine J (o:=(F.un (svS G s w v _ _ _ p)).obj s) _ f ?_;refine Qc zb Nh ?_;refine J (o:=(F.un (svS G s w v _ _ _ p)).obj s) _ f ?_;refine J (o:=(F.un (svS G s w v _ _ _ p)).obj s) _ f ?_;refine⟨Mm w.G n w.B D hb 0 _ _ ⟨O,?_⟩,O⟩;refine⟨0,rfl,ψ,?_⟩;have j:=zh (a:=F) (By G s w v (opV w.G w.B 0) o1 o2 p);have g:=Ox (Fo n w.B 0);refine⟨?_,O⟩;refine J _ rfl (ju rfl (jr (v:=opV w.G w.B 0) rfl rfl rfl rfl ?_));refine yu (i:=ti68) (v:=opV w.G w.B 0) (b:=s) (o:=0+8+0*ti68.size) (l:=svC w v _ o1 o2 p) (st2:=F.un (svS G s w v (opV w.G w.B 0) o1 o2 p)) g.1 g.2 rfl f (show 8+1<=12 by decide) ?_ ?_
   .rw[z8];unfold svS;rw[ym];rfl
   refine⟨O,?_⟩;refine⟨0,rfl,ψ,?_⟩;refine J (o:=(F.un (svS G s w v _ _ _ p)).obj s) _ j ?_;exact ret (h _ _ _ ⟨d.hc,o5 d.hd,d.hs,d.hu,.inr rfl,d.h1,d.h2⟩)
  .rw[y]at e;subst e;refine Qy 35 func187 ?_;refine⟨0,rfl,ψ,?_⟩;refine J (o:=(F.un (svS G s w v _ _ _ p)).obj s) _ f ?_;refine λA z=>?_;have k:A=false:=by grind
   subst k;refine⟨0,rfl,ψ,?_⟩;refine J (o:=(F.un (svS G s w v _ _ _ p)).obj s) _ f ?_;refine ret ?_;have:=h _ _ _ d;rw[y]at this;exact this
 .rcases d.h1 with e|e
  .subst e;refine Qy 35 func187 ?_;refine⟨1,rfl,ψ,?_⟩;refine J (o:=(F.un (svS G s w v _ _ _ p)).obj s) _ f ?_;refine Qc zb Nh ?_;refine J (o:=(F.un (svS G s w v _ _ _ p)).obj s) _ f ?_;refine J (o:=(F.un (svS G s w v _ _ _ p)).obj s) _ f ?_;refine⟨Mm w.G n w.B D hb 1 _ _ ⟨O,?_⟩,O⟩;refine⟨1,rfl,ψ,?_⟩;have j:=zh (a:=F) (By G s w v o0 (opV w.G w.B 1) o2 p);have g:=Ox (Fo n w.B 1);refine⟨?_,O⟩;refine J _ rfl (ju rfl (jr (v:=opV w.G w.B 1) rfl rfl rfl rfl ?_));refine yu (i:=ti68) (v:=opV w.G w.B 1) (b:=s) (o:=0+8+1*ti68.size) (l:=svC w v o0 _ o2 p) (st2:=F.un (svS G s w v o0 (opV w.G w.B 1) o2 p)) g.1 g.2 rfl f (show 9+1<=12 by decide) ?_ ?_
   .rw[z8];unfold svS;rw[ym];rfl
   refine⟨O,?_⟩;refine⟨1,rfl,ψ,?_⟩;refine J (o:=(F.un (svS G s w v _ _ _ p)).obj s) _ j ?_;exact ret (h _ _ _ ⟨d.hc,o5 d.hd,d.hs,d.hu,d.h0,.inr rfl,d.h2⟩)
  .rw[u]at e;subst e;refine Qy 35 func187 ?_;refine⟨1,rfl,ψ,?_⟩;refine J (o:=(F.un (svS G s w v _ _ _ p)).obj s) _ f ?_;refine λA z=>?_;have k:A=false:=by grind
   subst k;refine⟨1,rfl,ψ,?_⟩;refine J (o:=(F.un (svS G s w v _ _ _ p)).obj s) _ f ?_;refine ret ?_;have:=h _ _ _ d;rw[u]at this;exact this
 .rcases d.h2 with e|e
  .subst e;refine Qy 35 func187 ?_;refine⟨2,rfl,ψ,?_⟩;refine J (o:=(F.un (svS G s w v _ _ _ p)).obj s) _ f ?_;refine Qc zb Nh ?_;refine J (o:=(F.un (svS G s w v _ _ _ p)).obj s) _ f ?_;refine J (o:=(F.un (svS G s w v _ _ _ p)).obj s) _ f ?_;refine⟨Mm w.G n w.B D hb 2 _ _ ⟨O,?_⟩,O⟩;refine⟨2,rfl,ψ,?_⟩;have j:=zh (a:=F) (By G s w v o0 o1 (opV w.G w.B 2) p);have g:=Ox (Fo n w.B 2);refine⟨?_,O⟩;refine J _ rfl (ju rfl (jr (v:=opV w.G w.B 2) rfl rfl rfl rfl ?_));refine yu (i:=ti68) (v:=opV w.G w.B 2) (b:=s) (o:=0+8+2*ti68.size) (l:=svC w v o0 o1 _ p) (st2:=F.un (svS G s w v o0 o1 (opV w.G w.B 2) p)) g.1 g.2 rfl f (show 10+1<=12 by decide) ?_ ?_
   .rw[z8];unfold svS;rw[ym];rfl
   refine⟨O,?_⟩;refine⟨2,rfl,ψ,?_⟩;refine J (o:=(F.un (svS G s w v _ _ _ p)).obj s) _ j ?_;exact ret (h _ _ _ ⟨d.hc,o5 d.hd,d.hs,d.hu,d.h0,d.h1,.inr rfl⟩)
  .rw[t]at e;subst e;refine Qy 35 func187 ?_;refine⟨2,rfl,ψ,?_⟩;refine J (o:=(F.un (svS G s w v _ _ _ p)).obj s) _ f ?_;refine λA z=>?_;have k:A=false:=by grind
   subst k;refine⟨2,rfl,ψ,?_⟩;refine J (o:=(F.un (svS G s w v _ _ _ p)).obj s) _ f ?_;refine ret ?_;have:=h _ _ _ d;rw[t]at this;exact this
def yqh(d:List Value):flat (.tup (d.map AV.s)):=by
 intro w T g j v h;cases h with
 |tup _ c f h=>
  refine .tup _ c f λi x y a e=>?_;rw[Fau]at a;cases b:d[i]? with
  |none=>rw[b]at a;cases a
  |some z=>
   rw[b]at a;cases a;have:=h i (.s z) y δ e;cases this;exact .s _
def dq{g:Store}{l:List Unt}(d:RowsQ 10 zf g v l)(f:Γ l<=1000000000000)(c:yw l)(id:Int)(R:Ja)
  (h:∀i,N7 l id i->∀z:Bool,(z=true↔∃a:i<Γ l,l[i].id=id)->R (.tup [int (i:Nat),V.bool z]) g):Jb 190 [v,int id] g R:=
 ACalls.read (ys:=[lst 10 zf l,int id]) (Q:=λr=>∃(i:Nat) (z:Bool),r=.tup [int (i:Nat),V.bool z]/\N7 l id i/\(z=true↔∃a:i<Γ l,l[i].id=id)) (λn M W t sto c=>by obtain⟨x,y,rfl,k,j⟩:=Hg c;exact Reads.cons (d.borrow yx fi sto k) (Reads.cons (qq j) Reads.nil)) (p7 l f c id _ _ λi a z b=>⟨i,z,rfl,a,b⟩) (λr ⟨i,z,e,_⟩=>e▸yqh [_,_]) (λr ⟨i,z,e,a,b⟩=>e▸h i a z b)
def uw{L:List Ent}(y:StandR F G s p w v L o0 o1 o2)(Q:yw w.U)(hU:Γ w.U<=1000000)(hn:∀u∈w.U,u.pos.ok)(hLl:Γ L<=Γ w.U)(hL:Fp w L)(q:Vc)(hq:q.ok)(r:Int)(hrr:0<r/\r<=262144)(R:Ja)
  (h:∀l f,StandR l G s p w v L o0 o1 o2->L5 w q (r+81920) f->(f.map (·.id)).Pairwise (·<·)->Γ f<=1000000->R (lst 10 zf f) (l.un (svS G s w v o0 o1 o2 p))):Jb 188 [ptr s,.agg (zr q),int r] (F.un (svS G s w v o0 o1 o2 p)) R:=by
 have ho:=zh (a:=F) (By G s w v o0 o1 o2 p);refine Qy 47 func188 ?_;refine Qc zb zas ?_;refine J (o:=(F.un (svS G s w v _ _ _ p)).obj s) _ ho ?_;refine Qd ?_;refine⟨zhf y.hc y.hd Z (Lu hL hn) hq (r:=r+81920) ⟨Z,Z⟩ _ (λl N nv d g1 g2 g3 g4 g5 M=>⟨O,?_⟩),O⟩;have X:StandR l G s p w v L o0 o1 o2:=⟨g1,g3,y.hs,y.hu,y.h0,y.h1,y.h2⟩
 have V:((l.un N).un (svS G s w v o0 o1 o2 p)).obj s=Δ (.cells (svC w v o0 o1 o2 p)):=zh (By G s w v o0 o1 o2 p);have g4':zl (l.un N) (svS G s w v o0 o1 o2 p):=disj_un.2 ⟨g3,g4⟩;have hv:∃P A,nv=.s (.slice P (Γ d) A)/\∀i,i<Γ d->∃b c,P=Δ ⟨b,0,Θ⟩/\((l.un N).un (svS G s w v o0 o1 o2 p)).obj b=Δ (.cells (d.map aI++c)):=by
  rcases Rs g5 with⟨rfl,rfl⟩|⟨b,A,c,rfl,E,_⟩
  .grind
  simp_all[yf,zh]
 obtain⟨P,A,rfl,I⟩:=hv;have hrow:RowsQ 10 zf ((l.un N).un (svS G s w v o0 o1 o2 p)) v w.U:=(I5 y.hs y.hu).un;have hnl:Γ d<=Γ w.U:=by have:=Fbs (l₂:=L.map (·.1)) (M.1.imp λh=>Z) (λid t=>by obtain⟨e,he,h2,_⟩:=(M.2 id).1 t;grind);grind
 have hfin:∀f:List Unt,f.map (·.id)=d->(∀u∈f,u∈w.U/\u.inn=0)->R (lst 10 zf f) (l.un (svS G s w v o0 o1 o2 p)):=λf e1 e2=>
  h l f X (zc9 Q hL M e1 e2) (by rw[e1];exact M.1) δ
 have hback:=zet (S:=svS G s w v o0 o1 o2 p) g2;generalize(l.un N).un (svS G s w v o0 o1 o2 p)=st1 at*
 refine AWp.loop (σ:=Nat×AV×List Unt) ⟨λx=>[(0,.av (ptr s)),(6,.av x.2.1),(18,.av (.s (.slice P (Γ d) A))),(19,.av (int (Γ d:Nat))),(20,.av (int (x.1:Nat)))],λ_=>[],
  λx st'=>x.1<=Γ d/\App 10 st1 x.2.1 (rws zf x.2.2) st'/\x.2.2.map (·.id)=d.take x.1/\∀u∈x.2.2,u∈w.U/\u.inn=0,λx=>Γ d-x.1⟩ zb ?_ ?_
 .exact⟨(0,_,[]),O,⟨Fae _,App.start 10 st1,rfl,λu D=>(by cases D)⟩,⟨Y,Y,Y,Y,Y,O⟩,O⟩
 rintro⟨i,v2,f⟩ st' ⟨hi,C,n,H⟩;dsimp only at hi C n H⊢;refine bcd (λh1=>?_) (λh1=>?_);rotate_left
 .have:i=Γ d:=Z;subst this;rw[Fal]at n;exact⟨_,_,AV.le_trans C.le (Tt),C.has.trans hback,hfin f n H⟩
 have hlt:i<Γ d:=Z;obtain⟨b,c,rfl,E⟩:=I i hlt;have hob':st'.obj b=Δ (.cells (d.map aI++c)):=by rw[C.obj];exact E
 have hrow':RowsQ 10 zf st' v w.U:=by exact hrow.sub λ_ _ _ _=>by rw[C.obj]
 have hos:st'.obj s=Δ (.cells (svC w v o0 o1 o2 p)):=by rw[C.obj];exact V
 refine⟨i,rfl,hlt,?_⟩;refine Qby ?_;refine J (o:=List.head? _) (int d[i]) ψ5 ?_;refine Qby ?_;refine dq hrow' Z Q d[i] _ (λk hk z hz=>?_);obtain⟨e,he,t,_⟩:=(M.2 d[i]).1 (Faa hlt);obtain⟨u,D,υ,rfl⟩:=(hL e).1 he;have hfound:∃g:k<Γ w.U,w.U[k].id=d[i]:=by
  obtain⟨j,hj,rfl⟩:=Faj D;have h5:j>=k:=Decidable.byContradiction λhn2=>by have:=hk.2.1 j hj Z;grind
  have h7:k<Γ w.U:=Z;refine⟨h7,?_⟩;have h8:=hk.2.2 k h7 (Fai _);have h6:(w.U[j]).id=d[i]:=t;by_cases e:k=j
  .subst e;exact h6
  .have:=Hd Q (show k<j by omega) hj;omega
 obtain⟨g,W⟩:=hfound;refine Qby ?_;obtain⟨τ,η,T,B⟩:=hrow'.form;obtain⟨b2,J2,rfl,ε⟩:=B k g;subst T;refine⟨k,rfl,g,?_⟩;refine Qby ?_;refine yv (i:=ti72) (row:=zf w.U[k]) rfl rfl (xx yx g) ?_;refine⟨ψ,?_⟩;have ο:Γ f=i:=by have:=congrArg List.length n;grind
 refine Af (ie:=ti72) (rows':=[zf w.U[k]]) C ?_ ?_ ⟨?_,?_⟩ (λv3 ι K=>?_)
 .rfl
 .rfl
 .simp only[zj,Fao,ti72];omega
 .grind[zj]
 refine Qd ?_;have π:w.U[k]=u:=Ke Q (Faa g) D (by rw[W];exact t.symm);refine⟨(i+1,v3,f++[w.U[k]]),?_,⟨ζ,?_,?_,λu2 ς=>?_⟩,Qbt,O⟩
 .grind
 .dsimp only;unfold rws at K⊢;rw[Fa8];exact K
 .simp_all
 grind
def ux{L:List Ent}(n:StandR F G s p w v L o0 o1 o2)(i:yw w.U)(l:Γ w.U<=1000000)(k:∀u∈w.U,u.pos.ok)(g:Γ L<=Γ w.U)(o:Fp w L)(q:Vc)(j:q.ok)(r:Int)(f:0<r/\r<=262144)(R:Ja)
  (h:∀e c,StandR e G s p w v L o0 o1 o2->L5 w q (r+81920) c->Γ c<=1000000->R (lst 10 zf c) (e.un (svS G s w v o0 o1 o2 p))):Jb 188 [ptr s,.agg (zr q),int r] (F.un (svS G s w v o0 o1 o2 p)) R:=
 uw n i l k g o q j r f R λe c a b _ d=>h e c a b d
def gk{L:List Ent}(hS:StandR F G s p w v L o0 o1 o2)(W:zt w.G)(hB:Γ w.B<=1000000000000)(hb:∀b∈w.B,yh b/\onP w.G b)(hr:yw w.U)(hU:Γ w.U<=1000000)(hn:∀u∈w.U,u.pos.ok)(M:Γ L<=Γ w.U)(hL:Fp w L)
  (id k:Int) (q:Vc) (E:q.ok) (R:Ja)
  (h:∀z y T S Q,(z=true↔qi w id k q)->StandR y G s p w v L T S Q->R (V.bool z) (y.un (svS G s w v T S Q p))):Jb 110 [ptr s,int id,int k,.agg (zr q)] (F.un (svS G s w v o0 o1 o2 p)) R:=by
 have ho:=zh (a:=F) (By G s w v o0 o1 o2 p);have K:=Cg k;have hc:=Hp k;refine Qy 56 func110 ?_;refine ky k _ _ ?_;refine Qc zb zav ?_;refine J (o:=(F.un (svS G s w v _ _ _ p)).obj s) _ ho ?_;refine⟨zzz hS W hB hb (yk k) hc _ (λC a1 a2 t=>⟨?_,?_⟩),O⟩
 .have H:=zh (a:=F) (By G s w v C a1 a2 p);repeat(first|exact O|refine⟨rfl,?_⟩|refine⟨J (o:=(F.un (svS G s w v C a1 a2 p)).obj s) _ H rfl,?_⟩)
 refine⟨zfm w.G W w.B (yk k) q E (zw k) ⟨K.1,Z⟩ _ _ (λz hz=>⟨O,?_⟩),O⟩;refine ya ?_;refine zg (λc1=>?_) (λc1=>ret (h false _ _ _ _ ψ6 t));have hfree:=hz.1 c1;refine ux t hr hU hn M hL q E (zw k) ⟨K.1,Z⟩ _ (λy c n l X=>?_);have hci:=zg3 (id:=id) hfree l;have no:¬qi w id k q->R (V.bool false) (y.un (svS G s w v C a1 a2 p)):=λhh=>h false _ _ _ _ θ8 n
 refine AWp.loop (σ:=Nat) ⟨λi=>[(1,.av (int id)),(7,.bx 7 0),(9,.bx 9 0),(32,.av (lst 10 zf c)),(33,.av (int (Γ c:Nat))),(34,.av (int (i:Nat)))],λ_=>[(7,zr q),(9,D6 k)],
  λi g=>g=y.un (svS G s w v C a1 a2 p)/\i<=Γ c/\∀j,(hj:j<Γ c)->j<i->c[j].id≠id->wt q (zw k) c[j].pos (zw c[j].kind)=true,λi=>Γ c-i⟩ zb ?_ ?_
 .refine⟨0,O,⟨rfl,Fae _,λj _ hj=>Z⟩,⟨Y,Y,Y,Y,?_,Y,O⟩,⟨rfl,rfl,O⟩⟩;rw[<-zj (f:=zf) c];exact Y
 rintro i g ⟨rfl,hi,hall⟩;refine bcd (λh1=>?_) (λh1=>?_);rotate_left
 .refine ret (h true _ _ _ _ ψ7 n)
 have d:i<Γ c:=Z;have D:=(l c[i]).1 (Faa d);have next:(c[i].id≠id->wt q (zw k) c[i].pos (zw c[i].kind)=true)->∀j,(hj:j<Γ c)->j<i+1->c[j].id≠id->wt q (zw k) c[j].pos (zw c[j].kind)=true:=λhh j hj ε=>by
  by_cases e:j=i
  .subst e;exact hh
  .exact hall j hj Z
 refine⟨i,rfl,J _ (zm d) ?_⟩;refine Qc zb zau ?_;refine qd (λP=>?_) (λP=>?_)
 .refine⟨ky c[i].kind _ _ ⟨Qe,?_⟩,O⟩;have I:=Cg c[i].kind;refine⟨zh9 q (zw k) c[i].pos (zw c[i].kind) E (hn _ D.1.1) ⟨K.1,Z⟩ ⟨I.1,Z⟩ _ _ ⟨O,?_⟩,O⟩;refine ya ?_;refine zg (λA=>?_) (λA=>?_)
  .refine Qd ?_;refine⟨i+1,?_,⟨rfl,Z,next λ_=>A⟩,Qbt,⟨rfl,rfl,O⟩⟩;show Γ c-(i+1)<Γ c-i;omega
  .refine ret (no λhh=>?_);have:=hci.1 hh c[i] (Faa d) P;rw[this]at A;cases A
 .refine Qbw ?_;refine Qbx ?_;refine Qd ?_;refine⟨i+1,?_,⟨rfl,Z,next λhne=>absurd P hne⟩,Qbt,⟨rfl,rfl,O⟩⟩;show Γ c-(i+1)<Γ c-i;omega
end
section
variable {F G:Store} {s p i:Nat} {w:Wld} {v o0 o1 o2:AV}
def la{L:List Ent}(g:StandR F G s p w v L o0 o1 o2)(H:jf v s)(hr:yw w.U)(hU:Γ w.U<=1000000)(hL:Γ L<=1000000)(C:∀e∈L,e.2.ok)(hi:i<Γ w.U)(u:Unt)(ε:w.U[i].id=u.id)(hp:u.pos.ok)(R:Ja)
  (h:∀F' W,StandR F' W s p {w with U:=w.U.set i u} v (F0 L u) o0 o1 o2->(∀q,jf v q->W.obj q=G.obj q)->R (.tup []) (F'.un (svS W s {w with U:=w.U.set i u} v o0 o1 o2 p))):
  Jb 287 [ptr s,.agg (zf u)] (F.un (svS G s w v o0 o1 o2 p)) R:=by
 have hrow:RowsQ 10 zf (F.un (svS G s w v o0 o1 o2 p)) v w.U:=(I5 g.hs g.hu).un;have B:(F.un (svS G s w v o0 o1 o2 p)).obj s=Δ (.cells (svC w v o0 o1 o2 p)):=zh (By _ _ _ _ _ _ _ _);rcases g.hu with(⟨_,n⟩|⟨b,d,a,rfl,ho,Q,P,M⟩)|⟨_,_,_,n⟩
 .rw[n]at hi;exact absurd hi (Fav i)
 rotate_left
 .rw[n]at hi;exact absurd hi (Fav i)
 have t:b≠s:=H b _ _ rfl Z;have I:(F.un (svS G s w (.s (.slice (Δ ⟨b,0,Θ⟩) (Γ w.U) d)) o0 o1 o2 p)).obj b=Δ (.cells ((rws zf w.U).flatten++a)):=zh (by show(G.sO s _).obj b=_;rw[zi t];exact ho);refine Qy 44 func287 ?_;refine Qc zb ydc ?_;refine J (o:=(F.un (svS G s w _ o0 o1 o2 p)).obj s) _ B ?_;refine⟨dq hrow Z hr u.id _ (λk hk z hz=>⟨Qe,?_⟩),O⟩;have K:k=i:=by
  by_cases y:k<i
  .have:=hk.2.2 k Z (Fai _);have:=V4 hr y hi;omega
  .by_cases f:i<k
   .have:=hk.2.1 i hi f;omega
   .omega
 subst K;refine Qbx ?_;refine Qbx ?_;refine Qc zb ydb ?_;refine J (o:=(F.un (svS G s w _ o0 o1 o2 p)).obj s) _ B ?_;refine⟨k,rfl,hi,?_⟩;refine⟨?_,O⟩;refine J _ rfl (ju rfl (jr (v:=.agg (zf u)) rfl rfl rfl rfl ?_));refine kh (i:=ti72) (v:=.agg (zf u)) (xs:=zf u) (b:=b) (o:=0+k*10) (l:=(rws zf w.U).flatten++a) rfl rfl rfl I (by rw[Fad,qu yx,yx];omega) ?_;have e0:(F.un (svS G s w (.s (.slice (Δ ⟨b,0,Θ⟩) (Γ w.U) d)) o0 o1 o2 p)).sO b (.cells (zu ((rws zf w.U).flatten++a) (0+k*10) (zf u)))=F.un (svS (G.sO b (.cells ((rws zf (w.U.set k u)).flatten++a))) s {w with U:=w.U.set k u} (.s (.slice (Δ ⟨b,0,Θ⟩) (Γ w.U) d)) o0 o1 o2 p):=by rw[Fbd,yg5 yx hi u a,z8];unfold svS;rw[Fj t];rfl
 rw[e0];have hG:∀q,q≠b->(G.sO b (.cells ((rws zf (w.U.set k u)).flatten++a))).obj q=G.obj q:=λq E=>zi E;have c:StandR F (G.sO b (.cells ((rws zf (w.U.set k u)).flatten++a))) s p {w with U:=w.U.set k u} (.s (.slice (Δ ⟨b,0,Θ⟩) (Γ w.U) d)) L o0 o1 o2:=by
  refine⟨g.hc,λj y f=>g.hd j y (svS_has.2 ?_),?_,.inl (.inr ⟨b,d,a,by rw[Faf],zd _ _ _,by rw[Faf];exact Q,by rw[Faf];exact P,M⟩),g.h0,g.h1,g.h2⟩
  .rcases svS_has.1 f with f|f
   .exact .inl f
   .rcases has_setObj_iff.1 f with rfl|f
    .exact .inr (xk ho)
    .exact .inr f
  .rw[hG s (Ne.symm t)];exact g.hs
 have hoffG:∀q,jf (.s (.slice (Δ ⟨b,0,Θ⟩) (Γ w.U) d)) q->(G.sO b (.cells ((rws zf (w.U.set k u)).flatten++a))).obj q=G.obj q:=λq E=>hG q (Ne.symm (E b _ _ rfl Z));generalize G.sO b _=D at c hoffG⊢;have A:(F.un (svS D s {w with U:=w.U.set k u} (.s (.slice (Δ ⟨b,0,Θ⟩) (Γ w.U) d)) o0 o1 o2 p)).obj s=Δ (.cells (svC w (.s (.slice (Δ ⟨b,0,Θ⟩) (Γ w.U) d)) o0 o1 o2 p)):=zh (By _ _ _ _ _ _ _ _);refine⟨O,?_⟩;refine zp (λV=>?_) (λV=>?_)
 .refine Qc zb yda ?_;refine J (o:=(F.un (svS D s _ _ o0 o1 o2 p)).obj s) _ A ?_;refine⟨pr c.hc c.hd Z C u.id u.pos hp _ (λX f S=>⟨O,?_⟩),O⟩;have T:F0 L u=qz L u.id++[(u.id,u.pos)]:=if_pos V;exact ret (h X D ⟨by rw[T];exact f,S,c.hs,c.hu,c.h0,c.h1,c.h2⟩ hoffG)
 .refine Qc zb yc9 ?_;refine J (o:=(F.un (svS D s _ _ o0 o1 o2 p)).obj s) _ A ?_;refine⟨ytu c.hc c.hd Z C u.id _ (λX f S=>⟨O,?_⟩),O⟩;have T:F0 L u=qz L u.id:=if_neg V;exact ret (h X D ⟨by rw[T];exact f,S,c.hs,c.hu,c.h0,c.h1,c.h2⟩ hoffG)
def Wb{L:List Ent}(o:StandR F G s p w v L o0 o1 o2)(d:jf v s)(k:yw w.U)(n:Γ w.U<=1000000)(t:Γ L<=1000000)(a:∀e∈L,e.2.ok)(l:i<Γ w.U)(u:Unt)(f:w.U[i].id=u.id)(j:u.pos.ok)(R:Ja)
  (h:∀c b g,StandR c b s p {w with U:=w.U.set i u} v g o0 o1 o2->(∀q,jf v q->b.obj q=G.obj q)->Γ g<=Γ L+1->(∀e∈g,e.2.ok)->R (.tup []) (c.un (svS b s {w with U:=w.U.set i u} v o0 o1 o2 p))):
  Jb 287 [ptr s,.agg (zf u)] (F.un (svS G s w v o0 o1 o2 p)) R:=
 la o d k n t a l u f j R λc b z y=>h c b _ z y (yrf L u) (yre a j)
end
def yhb(m:Int)(hm:0<=m)(st:Store)(R:Ja)(h:∀r,Dm m r->R (int r) st):Jb 429 [.agg (ji m)] st R:=by
 refine Qy 22 func429 ?_
 refine AWp.loop (σ:=Nat×Int) ⟨λx=>[(1,.bx 1 0),(3,.av (u64 x.2)),(4,.av (int ((x.1:Int)-1)))],λ_=>[(1,ji m)],
  λx a=>x.1<=63/\a=st/\Kc m x.2 x.1,λx=>x.1⟩ zb ?_ ?_
 .exact⟨(63,0),O,⟨Fai _,rfl,yhe hm⟩,Qbt,⟨rfl,O⟩⟩
 rintro⟨k,r⟩ a ⟨j,rfl,b⟩;dsimp only at j b⊢;refine bcd (λp=>?_) (λp=>?_);rotate_left
 .have:k=0:=Z;subst this;have d:=yhg b;have o:=h r d;have l:=d.1;exact⟨⟨Z,d.2.1⟩,ret o⟩
 cases k with
 |zero=>omega
 |succ k=>
  obtain⟨t,w,v,u⟩:=yhh b;have f:((k+1:Nat):Int)-1=(k:Int):=Z;refine⟨Z,?_⟩;have g:xf .or .u64 r (IntKind.u64.wrap (1*2^(min (((k+1:Nat):Int)-1).toNat IntKind.u64.bits)))=r+2^k:=by rw[f,yax Z,t]
  have c:∀X,X=r+2^k->0<=X/\X<18446744073709551616/\0<=X*X:=λX n=>by subst n;exact⟨Z,Z,Fax Z Z⟩
  have c:=c _ g;refine Qc zb ybp ?_;refine⟨bm _ c.1 c.2.1 _ _ ⟨Qe,?_⟩,O⟩;refine⟨zhx m _ hm c.2.2 _ _ ⟨Qe,?_⟩,O⟩;have no:=λe=>yhf b e;have yes:=λe=>yhd b e;rw[<-g]at no yes;generalize xf .or .u64 r (IntKind.u64.wrap (1*2^(min (((k+1:Nat):Int)-1).toNat IntKind.u64.bits)))=X at*;refine ya ?_;refine bcd (λi=>?_) (λi=>?_)
  .refine⟨by unfold yr;omega,?_⟩;refine⟨(k,r),?_,⟨ζ,rfl,no i⟩,⟨Y,Y,?_,O⟩,⟨rfl,O⟩⟩
   .show k<k+1;omega
   .rw[f];exact Y
  .refine⟨by unfold yr;omega,?_⟩;refine⟨(k,X),?_,⟨ζ,rfl,yes Z⟩,⟨Y,Y,?_,O⟩,⟨rfl,O⟩⟩
   .show k<k+1;omega
   .rw[f];exact Y
def ygy(m:Int)(hm:0<=m)(st:Store)(R:Ja)(h:∀r,Dm m r->R (u64 r) st):Jb 445 [.agg (ji m),u64 9223372036854775807] st R:=by
 refine Qy 28 func445 ?_
 refine AWp.loop (σ:=Int×Int) ⟨λx=>[(2,.bx 2 0),(5,.av (u64 x.1)),(6,.av (u64 x.2))],λ_=>[(2,ji m)],
  λx c=>c=st/\Lp m x.1 x.2,λx=>(x.2-x.1).toNat⟩ zb ?_ ?_
 .exact⟨(0,9223372036854775807),O,⟨rfl,yhi hm⟩,Qbt,⟨rfl,O⟩⟩
 rintro⟨l,u⟩ c ⟨rfl,b⟩;dsimp only at b⊢;refine bcd (λf=>?_) (λf=>?_);rotate_left
 .exact ret (h l (yhl b f))
 have v:=b.1;have t:=b.2.2.1;have n:IntKind.u64.wrap (u-l)=u-l:=kx Z Z;have k:IntKind.u64.wrap (u-l+1)=u-l+1:=kx Z Z;have o:0<=(u-l+1)/2/\(u-l+1)/2<=u-l/\1<=(u-l+1)/2:=Z;have j:IntKind.u64.wrap ((u-l+1)/2)=(u-l+1)/2:=kx Z Z;have i:IntKind.u64.wrap (l+(u-l+1)/2)=l+(u-l+1)/2:=kx Z Z;have wX:IntKind.u64.wrap (l+IntKind.u64.wrap ((IntKind.u64.wrap (IntKind.u64.wrap (u-l)+1)).tdiv 2))=l+(u-l+1)/2:=by rw[n,k,show(u-l+1).tdiv 2=(u-l+1)/2 from Fat Z,j,i]
 have a:∀X,X=l+(u-l+1)/2->0<=X/\X<18446744073709551616/\0<=X*X/\l<X/\X<=u:=λX p=>by have d:0<=X:=Z;exact⟨d,Z,Fax d d,Z,Z⟩
 have a:=a _ wX;refine⟨ψ,?_⟩;refine Qc zb ybk ?_;refine⟨Pd _ _ a.1 a.2.1 a.1 a.2.1 _ _ ⟨Qe,?_⟩,O⟩;refine⟨zd5 m _ hm a.2.2.1 _ _ ⟨Qe,?_⟩,O⟩;generalize IntKind.u64.wrap (l+IntKind.u64.wrap ((IntKind.u64.wrap (IntKind.u64.wrap (u-l)+1)).tdiv 2))=X at*;refine bcd (λe=>?_) (λe=>?_)
 .have g:IntKind.u64.wrap (X-1)=X-1:=kx Z Z;refine⟨(l,X-1),?_,⟨rfl,yhk b a.2.2.2.1 a.2.2.2.2 e⟩,⟨Y,Y,?_,O⟩,⟨rfl,O⟩⟩
  .show(X-1-l).toNat<(u-l).toNat;omega
  .show LV.le (.av (u64 (IntKind.u64.wrap (X-1)))) (.av (u64 (X-1)));rw[g];exact Y
 .refine⟨(X,u),?_,⟨rfl,yhj b a.2.2.2.1 a.2.2.2.2 (Int.not_lt.1 e)⟩,Qbt,⟨rfl,O⟩⟩;show(u-X).toNat<(u-l).toNat;omega
def mr(v:Vc)(a:v.ok)(st:Store)(R:Ja)(h:∀r,Dm (sqr v) r->R (int r) st):Jb 378 [.agg (zr v)] st R:=by have hb:=M8 a;refine Qy 6 func378 ?_;refine um v a _ _ ?_;refine yhb (sqr v) (by unfold sqr;omega) _ _ (λr b=>?_);exact ret (h r b)
def V2(v:Vc)(b:v.ok)(st:Store)(R:Ja)(h:∀r,Dm (sqr v) r->R (int r) st):Jb 398 [.agg (zr v)] st R:=by have hb:=M8 b;refine Qy 7 func398 ?_;refine za9 v b _ _ ?_;refine ygy (sqr v) (by unfold sqr;omega) _ _ (λr a=>?_);have c:=a.1;exact⟨⟨Z,a.2.1⟩,ret (h r a)⟩
def zfz(p q:Vc)(c:p.ok)(b:q.ok)(st:Store)(R:Ja)(h:R (V.bool (decide (Fz p q))) st):Jb 295 [.agg (zr p),.agg (zr q)] st R:=by refine Qy 10 func295 ?_;refine Sx p q c b _ _ ?_;refine mr _ (I1 p q) _ _ (λr a=>?_);refine ret ?_;rw[show decide (Fz p q)=decide (131072<r)from by rw[Fbm];simp only[decide_eq_true_eq];exact(zbk a).symm]at h;exact h
def io(p q:Vc)(c:p.ok)(b:q.ok)(st:Store)(R:Ja)(h:R (V.bool (decide (Fz p q))) st):Jb 327 [.agg (zr p),.agg (zr q)] st R:=by refine Qy 10 func327 ?_;refine Pp p q c b _ _ ?_;refine V2 _ (I1 p q) _ _ (λr a=>?_);refine ret ?_;rw[show decide (Fz p q)=decide (131072<r)from by rw[Fbm];simp only[decide_eq_true_eq];exact(zbk a).symm]at h;exact h
def sg(v:Vc)(st:Store)(R:Ja)(h:R (.agg (zr (qy v))) st):Jb 383 [.agg (zr v)] st R:=by refine Qy 10 func383 ?_;refine Qc zb ybx ?_;refine⟨Lz v.1 _ _ ⟨Qe,?_⟩,O⟩;refine⟨Lz v.2 _ _ ⟨Qe,?_⟩,O⟩;refine Qbw ?_;exact ret h
def sn(a b:Vc)(c:a.ok)(hb:b.ok)(st:Store)(R:Ja)(h:R (.agg (zr (xp a b))) st):Jb 304 [.agg (zr a),.agg (zr b)] st R:=by refine Qy 16 func304 ?_;refine Qc zb yct ?_;refine⟨K6 a.1 b.1 c.1 hb.1 _ _ ⟨Qe,?_⟩,O⟩;refine⟨K6 a.2 b.2 c.2 hb.2 _ _ ⟨Qe,?_⟩,O⟩;refine Qbw ?_;exact ret h
def Pq(a b:Vc)(c:a.ok)(hb:b.ok)(st:Store)(R:Ja)(h:R (.agg (zr (xp a b))) st):Jb 400 [.agg (zr a),.agg (zr b)] st R:=by refine Qy 16 func400 ?_;refine Qc zb ybt ?_;refine⟨iy a.1 b.1 c.1 hb.1 _ _ ⟨Qe,?_⟩,O⟩;refine⟨iy a.2 b.2 c.2 hb.2 _ _ ⟨Qe,?_⟩,O⟩;refine Qbw ?_;exact ret h
def yr2(a y:Int)(b:0<=a)(k:a<18446744073709551616)(j:0<y)(i:y<18446744073709551616)(st:Store)(R:Ja)(h:R (.tup [u64 (a/y),u64 (a%y)]) st):Jb 438 [u64 0,u64 a,u64 y] st R:=by
 have f:a.tdiv y=a/y:=Fat b;have e:a.tmod y=a%y:=Fcn b;have l:a/y<=a:=Fc0 _ b;have g:0<=a/y:=Fb3 b Z;have w:IntKind.u64.wrap (a.tdiv y)=a/y:=by rw[f];exact kx g Z
 refine Qy 135 func438 ?_;refine zp (λd=>absurd d Z) (λd=>?_);refine bcd (λc=>absurd c Z) (λc=>?_);refine Qc zb ybo ?_;refine⟨Z,?_⟩;refine⟨Z,?_⟩;refine⟨⟨Qe,⟨⟨O,?_⟩,O⟩⟩,O⟩;rw[w,e];exact ret h
def nrm_lt{n:Int}:nrm n<0↔n<0:=by unfold nrm;split<;>omega
def zh3{c:Int}(h:-4611686018427387904<=c/\c<=4611686018427387904):asz c=if c<0 then -c else c:=by unfold asz;rw[Gi Z]
def zck(c a b:Int)(u:-1099511627776<=c/\c<=1099511627776)(hm:0<=a/\a<=1048576)(hl:0<b/\b<9223372036854775808)(st:Store)(R:Ja)(h:R (int (Gw c a b)) st):
  Jb 384 [int c,int a,int b] st R:=by
 have hasz:=zh3 (c:=c) Z;obtain⟨x,i⟩:∃x,x=asz c:=⟨_,rfl⟩
 have g:0<=x/\x<=1099511627776:=by rw[i,hasz];split<;>omega
 have d:0<=x*a:=Fax g.1 hm.1;have o:x*a<=1099511627776*1048576:=Fa9 g.2 hm.2 hm.1 Z;have l:x*a/b<=x*a:=Fc0 _ d;have n:0<=x*a/b:=Fb3 d Z;have k:IntKind.u64.wrap a=a:=kx Z Z;have j:IntKind.u64.wrap b=b:=kx Z Z;refine Qy 39 func384 ?_;refine rj c ⟨Z,Z⟩ _ _ ?_;rw[<-i];show ACalls _ _ [u64 x,u64 (IntKind.u64.wrap a)] _ _;rw[k];refine mg x a g.1 Z hm.1 Z _ _ ?_;have t:ji (x*a)=[u64 0,u64 (x*a)]:=by unfold ji;rw[Fb9 d Z,Fc7 d Z]
 rw[t];show ACalls _ _ [u64 0,u64 (x*a),u64 (IntKind.u64.wrap b)] _ _;rw[j];refine yr2 _ _ d Z hl.1 Z _ _ ?_;unfold Gw at h;refine bcd (λf=>?_) (λf=>?_)
 .have f:=nrm_lt.1 f;rw[if_pos f]at h;rw[if_pos f]at hasz;refine Qd ?_;refine Qd ?_;have e:0-x*a/b=-(-c*a/b):=by rw[i,hasz];omega
  rw[e];exact ret h
 .have f:¬c<0:=λp=>f (nrm_lt.2 p);rw[if_neg f]at h;rw[if_neg f]at hasz;refine Qd ?_;rw[i,hasz];exact ret h
def se{v:Vc}(h:Aj v):qy v=v:=(Ha (Fg h)).2.1
def de(v:Vc)(a:Int)(hv:Aj v)(hm:-9223372036854775808<=a/\a<=1048576)(st:Store)(R:Ja)(h:R (.agg (zr (je v a))) st):
  Jb 307 [.agg (zr v),int a] st R:=by
 have hn:=se hv;have b:=(Ha (Fg hv)).2.2.1;have d:=H9 b;unfold je at h;rw[<-max2_eq]at h;have c:0<=max2 a 0/\max2 a 0<=1048576:=by rw[max2_eq];omega
 obtain⟨k,j,_,_⟩:=d;refine Qy 27 func307 ?_;refine sg v _ _ ?_;rw[hn]at h⊢;refine mr v (fw hv) _ _ (λr e=>?_);have e:=Pt b e;subst e;generalize max2 a 0=m at*;generalize j1 (sqr v)=L at*;refine bcd (λf=>?_) (λf=>?_)
 .rw[if_pos f]at h;exact ret h
 rw[if_neg f]at h;have i:nrm v.1=v.1:=congrArg Prod.fst hn;have g:nrm v.2=v.2:=congrArg Prod.snd hn;rw[i,g]at h;refine Qc zb ycp ?_;refine⟨zck v.1 m L hv.1 c Z _ _ ⟨Qe,?_⟩,O⟩;refine⟨zck v.2 m L hv.2 c Z _ _ ⟨Qe,?_⟩,O⟩;refine Qbw ?_;exact ret h
def zkq(p q:Vc)(s:Int)(d:xt p)(c:xt q)(e:0<=s/\s<=1048576)(st:Store)(R:Ja)(h:R (.agg (zr (Cc p q s))) st):Jb 312 [.agg (zr p),.agg (zr q),int s] st R:=by
 have b:p.ok:=by unfold xt at d;exact⟨⟨Z,Z⟩,⟨Z,Z⟩⟩
 have a:q.ok:=by unfold xt at c;exact⟨⟨Z,Z⟩,⟨Z,Z⟩⟩
 refine Qy 12 func312 ?_;refine Sx q p a b _ _ ?_;refine de _ s (La d c) Z _ _ ?_;exact ret h
def Rb(a b:Int×Int)(st:Store)(R:Ja)(h:∀z:Bool,(z=true↔qlt a b)->R (bool z) st):Jb 224 [.agg (itC a),.agg (itC b)] st R:=by
 refine Qy 24 func224 ?_;repeat' (first|refine bcd (λ_=>?_) (λ_=>?_)|refine zg (λ_=>?_) (λ_=>?_)|refine Qd ?_|fail)
 all_goals
  refine ret (h _ ?_);unfold qlt;simp only[decide_eq_true_eq,decide_eq_false_iff_not,Fan,false_iff,true_iff,beq_iff_eq,bne_iff_ne,beq_eq_false_iff_ne,ne_eq,reduceCtorEq]at*;omega
def yj1(S:Store)(R:Ja)(h:∀p,Fresh S p->R (ptr p) (S.sO p (.cells [.s (.slice Θ 0 0)]))):Jb 137 [] S R:=by refine Qa (c:=cfg 3 [2] []) zb func137 ?_;intro p a;exact ret (h p a)
def yjt{F:Store}{p:Nat}{l:List (Int×Int)}(V:QOf F p l)(hl:Γ l<=1000000)(hh:Au l)(x:Int×Int)(R:Ja)
  (h:∀M C,QOf M p C->Au C->C.Perm (x::l)->R (.tup []) M):Jb 223 [ptr p,int x.1,int x.2] F R:=by
 obtain⟨v,j,U,E⟩:=V.rows;refine Qy 74 func223 ?_;refine Qby ?_;refine⟨ψ,?_⟩;refine O3 (ie:=ti340) rfl Md ψ U x rfl Z (λb f L y T S Q=>?_);have t:b≠p:=by
  rcases y with y|⟨X,y⟩
  .exact λe=>by have:=y.1;rw[e,j]at this;cases this
  .exact E b X y
 have D:(F.sO b (.cells ((rws itC (l++[x])).flatten++L))).obj p=Δ (.cells [v]):=by rw[zi (Ne.symm t)];exact j
 refine xh (i:=ti331) (v:=.s (.slice (Δ ⟨b,0,Θ⟩) (l++[x]).length f)) (b:=p) (o:=0) (l:=[v]) rfl rfl rfl D (Fai 1) ?_
 have a:QAt ((F.sO b (.cells ((rws itC (l++[x])).flatten++L))).sO p (.cells (zu [v] 0 [.s (.slice (Δ ⟨b,0,Θ⟩) (l++[x]).length f)]))) p b f (l++[x]) L:=
  ⟨zd _ _ _,by rw[zi t];exact zd _ _ _,t,T,S,Q⟩
 have u:=yjv hh x;have w:=yju l x;have hlen:(l++[x]).length=Γ l+1:=φ;generalize hm:l++[x]=m at a u w hlen⊢;generalize(F.sO b (.cells ((rws itC m).flatten++L))).sO p _=K at a⊢;refine J (o:=K.obj p) _ a.hp ?_;refine Qd ?_
 refine AWp.loop (σ:=Nat×Store×List (Int×Int)) ⟨λq=>[(0,.av (ptr p)),(6,.av (int (q.1:Nat)))],λ_=>[],
  λq B=>B=q.2.1/\QAt q.2.1 p b f q.2.2 L/\UpF (qat q.2.2) (Γ q.2.2) q.1/\q.2.2.Perm (x::l)/\Γ q.2.2=Γ l+1/\q.1<Γ q.2.2,λq=>q.1⟩ zb ?_ ?_
 .refine⟨(Γ l,K,m),O,⟨rfl,a,u,w,hlen,ζ⟩,⟨Y,?_,O⟩,O⟩;show LV.le (.av (int ((Γ m:Int)-1))) (.av (int (Γ l:Nat)));rw[show(Γ m:Int)-1=(Γ l:Nat) by omega];exact Y
 rintro⟨i,ε,c⟩ g ⟨rfl,a,u,w,hlen,k⟩;dsimp only at a u w hlen k⊢;refine bcd (λW=>?_) (λW=>?_);rotate_left
 .have:i=0:=Z;subst this;exact ret (h g c (.inr ⟨b,f,L,a⟩) (zb4 u (.inl rfl)) w)
 have hpar:((i:Int)-1).tdiv 2=(par i:Nat):=by unfold par;rw[Fat Z];omega
 have d:par i<Γ c:=by have:=D3 (show 0<i by omega);omega
 refine Qd ?_;refine⟨ψ,?_⟩;refine ze (by rw[hpar];omega) ?_;refine Qc zb yev ?_;refine J (o:=g.obj p) _ a.hp ?_;refine⟨i,rfl,k,?_⟩;refine J (o:=g.obj b) _ a.hb ?_;refine yv (i:=ti340) (row:=itC (qat c i)) rfl rfl (Aq k) ?_;refine J (o:=g.obj p) _ a.hp ?_;refine⟨par i,hpar,d,?_⟩;refine J (o:=g.obj b) _ a.hb ?_;refine yv (i:=ti340) (row:=itC (qat c (par i))) rfl rfl (Aq d) ?_;refine⟨Rb _ _ _ _ (λz hz=>⟨O,?_⟩),O⟩;refine ya ?_;refine zg (λc2=>?_) (λc2=>?_);rotate_left
 .exact ret (h g c (.inr ⟨b,f,L,a⟩) (zb4 u (.inr λhh=>ψn)) w)
 obtain⟨G,I⟩:=yjs u Z k (hz.1 c2);have A:=a.set k (qat c (par i));have hpl2:par i<(c.set i (qat c (par i))).length:=by rw[Faf];exact d
 have H:=A.set hpl2 (qat c i);refine Qc zb yeu ?_;refine J (o:=g.obj p) _ a.hp ?_;refine J (o:=g.obj p) _ a.hp ?_;refine J (o:=g.obj p) _ a.hp ?_;refine⟨par i,hpar,d,?_⟩;refine J (o:=g.obj b) _ a.hb ?_;refine yv (i:=ti340) (row:=itC (qat c (par i))) rfl rfl (Aq d) ?_;refine J (o:=g.obj p) _ a.hp ?_;refine⟨i,rfl,k,?_⟩;refine J (o:=g.obj b) _ a.hb ?_;refine yv (i:=ti340) (row:=itC (qat c i)) rfl rfl (Aq k) ?_;refine⟨i,rfl,k,?_⟩;refine⟨?_,O⟩;refine J _ rfl (ju rfl (jr (v:=.agg (itC (qat c (par i)))) rfl rfl rfl rfl ?_));refine kh (i:=ti340) (xs:=itC (qat c (par i))) rfl rfl rfl a.hb (Ih k _) ?_;refine⟨O,?_⟩;refine⟨par i,hpar,d,?_⟩;refine⟨?_,O⟩;refine J _ rfl (ju rfl (jr (v:=.agg (itC (qat c i))) rfl rfl rfl rfl ?_));refine kh (i:=ti340) (xs:=itC (qat c i)) rfl rfl rfl A.hb (Ih hpl2 _) ?_;refine⟨O,?_⟩;have hlen2:(Al c i (par i)).length=Γ c:=M5 _ _ _;refine⟨(par i,_,Al c i (par i)),?_,⟨rfl,H,G,I.trans w,ζ,ζ⟩,⟨Y,?_,O⟩,O⟩
 .show par i<i;exact D3 Z
 .rw[hpar];exact Y
def LV.le_int{a b:Int}(h:a=b):LV.le (.av (int a)) (.av (int b)):=by subst h;exact Y
def yjw{F:Store}{p:Nat}{l:List (Int×Int)}(hq:QOf F p l)(hl:Γ l<=1000000)(hh:Au l)(R:Ja)
  (h0:l=[]->R (.tup [int 0,int 0,V.bool false]) F)
  (h1:0<Γ l->∀Q G,QOf Q p G->Au G->l.Perm (qat l 0::G)->R (.tup [int (qat l 0).1,int (qat l 0).2,V.bool true]) Q):Jb 142 [ptr p] F R:=by
 by_cases hz:Γ l=0
 .have hnil:l=[]:=Fa2 hz;obtain⟨v,t,hr,ν⟩:=hq.rows;have hv:∃a c,v=.s (.slice a 0 c):=by
   rcases hr with⟨rfl,_⟩|⟨b,w,L,rfl,_⟩
   .exact⟨_,_,rfl⟩
   .exact⟨_,_,by rw[hz]⟩
  obtain⟨a,c,rfl⟩:=hv;refine Qy 121 func142 ?_;refine Qby ?_;refine Qd ?_;exact ret (h0 hnil)
 obtain⟨b,w,L,d⟩:=hq.pos Z;obtain⟨n,hn⟩:∃n,Γ l=n+1:=⟨Γ l-1,Z⟩
 have ο:=d.h1;have y:0<Γ l:=Z;have U:n<Γ l:=Z;have I:(Γ l:Int)-1=(n:Nat):=Z;refine Qy 121 func142 ?_;refine J (o:=F.obj p) _ d.hp ?_;refine Qd ?_;refine bcd (λc1=>absurd c1 Z) (λc1=>?_);refine J (o:=F.obj p) _ d.hp ?_;refine⟨0,rfl,y,?_⟩;refine J (o:=F.obj b) _ d.hb ?_;refine yv (i:=ti340) (row:=itC (qat l 0)) rfl rfl (Aq y) ?_;refine Qc zb yf3 ?_;refine J (o:=F.obj p) _ d.hp ?_;refine J (o:=F.obj p) _ d.hp ?_;refine⟨n,I,U,?_⟩;refine J (o:=F.obj b) _ d.hb ?_;refine yv (i:=ti340) (row:=itC (qat l n)) rfl rfl (Aq U) ?_;refine⟨0,rfl,y,?_⟩;refine⟨?_,O⟩;refine J _ rfl (ju rfl (jr (v:=.agg (itC (qat l n))) rfl rfl rfl rfl ?_));refine kh (i:=ti340) (xs:=itC (qat l n)) rfl rfl rfl d.hb (Ih y _) ?_;refine⟨O,?_⟩;have M:=d.set y (qat l n);have τ:(l.set 0 (qat l n)).length=n+1:=by rw[Faf];exact hn
 refine J _ M.hp ?_;refine⟨0,n,rfl,I,Fae _,Z,.inl ⟨Z,?_⟩⟩;refine xh (i:=ti331) (v:=.s (.slice (Δ ⟨b,0,Θ⟩) n w)) (b:=p) (o:=0) (l:=[.s (.slice (Δ ⟨b,0,Θ⟩) (l.set 0 (qat l n)).length w)]) rfl rfl rfl M.hp (Fai 1) ?_;have K:=M.cut (n:=n) Z;have E:=yjz hn hh;have η:=yjx hn;have W:((l.set 0 (qat l n)).take n).length=n:=θd;have hfin:∀Q G,QOf Q p G->Au G->G.Perm ((l.set 0 (qat l n)).take n)->R (.tup [int (qat l 0).1,int (qat l 0).2,V.bool true]) Q:=λQ G g1 g2 g3=>h1 y Q G g1 g2 (η.trans (List.Perm.cons _ g3.symm));generalize(rws itC ((l.set 0 (qat l n)).drop n)).flatten++L=L2 at K;generalize((l.set 0 (qat l n)).take n)=m0 at K E W hfin
 refine AWp.loop (σ:=Nat×Store×List (Int×Int)) ⟨λq=>[(0,.av (ptr p)),(5,.av (int (n:Nat))),(6,.bx 6 0),(7,.av (int (q.1:Nat)))],λ_=>[(6,itC (qat l 0))],
  λq ε=>ε=q.2.1/\QAt q.2.1 p b w q.2.2 L2/\Iz (qat q.2.2) (Γ q.2.2) q.1/\q.2.2.Perm m0/\Γ q.2.2=n/\q.1<=n,λq=>n-q.1⟩ zb ?_ ?_
 .exact⟨(0,_,m0),O,⟨rfl,K,E,List.Perm.refl _,W,Fae _⟩,⟨Y,LV.le_int I,Y,Y,O⟩,⟨rfl,O⟩⟩
 rintro⟨i,π,m⟩ h ⟨rfl,d,E,H,hlen,ι⟩;dsimp only at d E H hlen ι⊢;refine Qd ?_;refine Qd ?_;refine bcd (λc1=>?_) (λc1=>?_)
 .have P:=hfin h m (.inr ⟨b,w,_,d⟩) (yj0 E Z) H;refine Qc zb Vv ?_;refine⟨⟨⟨rfl,O⟩,⟨⟨O,⟨⟨O,?_⟩,O⟩⟩,O⟩⟩,O⟩;exact ret P
 have g:i<Γ m:=Z;refine Qc zb yf4 ?_;refine Qd ?_;refine bcd (λc3=>?_) (λc3=>?_);rotate_left
 .refine Qbx ?_;have e:2*i+1<Γ m:=Z;have A:par (2*i+1)=i:=(Rf Z).2 (.inl rfl);have hmin:=pi (f:=qat m) (n:=Γ m) (i:=i) (k:=2*i+1) (.inl ⟨rfl,λhx=>Z⟩);refine Qc zb gy ?_;refine J (o:=h.obj p) _ d.hp ?_;refine⟨2*i+1,Z,e,?_⟩;refine J (o:=h.obj b) _ d.hb ?_;refine yv (i:=ti340) (row:=itC (qat m (2*i+1))) rfl rfl (Aq e) ?_;refine J (o:=h.obj p) _ d.hp ?_;refine⟨i,rfl,g,?_⟩;refine J (o:=h.obj b) _ d.hb ?_;refine yv (i:=ti340) (row:=itC (qat m i)) rfl rfl (Aq g) ?_;refine⟨Rb _ _ _ _ (λz hz=>⟨O,?_⟩),O⟩;refine ya ?_;refine zg (λc2=>?_) (λc2=>?_);rotate_left
  .have P:=hfin h m (.inr ⟨b,w,_,d⟩) (i6 E hmin (λhh=>ψn)) H;refine Qc zb Vv ?_;refine⟨⟨⟨rfl,O⟩,⟨⟨O,⟨⟨O,?_⟩,O⟩⟩,O⟩⟩,O⟩;exact ret P
  obtain⟨D,C⟩:=i7 E Z e A hmin (hz.1 c2);have u:=d.set g (qat m (2*i+1));have hkl2:2*i+1<(m.set i (qat m (2*i+1))).length:=by rw[Faf];exact e
  have B:=u.set hkl2 (qat m i);refine Qc zb gw ?_;refine J (o:=h.obj p) _ d.hp ?_;refine J (o:=h.obj p) _ d.hp ?_;refine J (o:=h.obj p) _ d.hp ?_;refine⟨2*i+1,Z,e,?_⟩;refine J (o:=h.obj b) _ d.hb ?_;refine yv (i:=ti340) (row:=itC (qat m (2*i+1))) rfl rfl (Aq e) ?_;refine J (o:=h.obj p) _ d.hp ?_;refine⟨i,rfl,g,?_⟩;refine J (o:=h.obj b) _ d.hb ?_;refine yv (i:=ti340) (row:=itC (qat m i)) rfl rfl (Aq g) ?_;refine⟨i,rfl,g,?_⟩;refine⟨?_,O⟩;refine J _ rfl (ju rfl (jr (v:=.agg (itC (qat m (2*i+1)))) rfl rfl rfl rfl ?_));refine kh (i:=ti340) (xs:=itC (qat m (2*i+1))) rfl rfl rfl d.hb (Ih g _) ?_;refine⟨O,?_⟩;refine⟨2*i+1,Z,e,?_⟩;refine⟨?_,O⟩;refine J _ rfl (ju rfl (jr (v:=.agg (itC (qat m i))) rfl rfl rfl rfl ?_));refine kh (i:=ti340) (xs:=itC (qat m i)) rfl rfl rfl u.hb (Ih hkl2 _) ?_;refine⟨O,?_⟩;have hlen2:(Al m i (2*i+1)).length=Γ m:=M5 _ _ _;refine⟨(2*i+1,_,Al m i (2*i+1)),?_,⟨rfl,B,D,C.trans H,ζ,ζ⟩,⟨Y,Y,Y,?_,O⟩,⟨rfl,O⟩⟩
  .show n-(2*i+1)<n-i;omega
  .exact LV.le_int Z
 refine J (o:=h.obj p) _ d.hp ?_;refine Qd ?_;have hkl1:2*i+2<Γ m:=Z;have hkl0:2*i+1<Γ m:=Z;refine⟨2*i+2,Z,hkl1,?_⟩;refine J (o:=h.obj b) _ d.hb ?_;refine yv (i:=ti340) (row:=itC (qat m (2*i+2))) rfl rfl (Aq hkl1) ?_;refine J (o:=h.obj p) _ d.hp ?_;refine⟨2*i+1,Z,hkl0,?_⟩;refine J (o:=h.obj b) _ d.hb ?_;refine yv (i:=ti340) (row:=itC (qat m (2*i+1))) rfl rfl (Aq hkl0) ?_;refine⟨Rb _ _ _ _ (λz T=>⟨O,?_⟩),O⟩;refine zg (λX=>?_) (λX=>?_)
 .refine Qd ?_;have e:2*i+2<Γ m:=hkl1;have A:par (2*i+2)=i:=(Rf Z).2 (.inr rfl);have hmin:=pi (f:=qat m) (n:=Γ m) (i:=i) (k:=2*i+2) (.inr ⟨rfl,T.1 X⟩);refine Qc zb gy ?_;refine J (o:=h.obj p) _ d.hp ?_;refine⟨2*i+2,Z,e,?_⟩;refine J (o:=h.obj b) _ d.hb ?_;refine yv (i:=ti340) (row:=itC (qat m (2*i+2))) rfl rfl (Aq e) ?_;refine J (o:=h.obj p) _ d.hp ?_;refine⟨i,rfl,g,?_⟩;refine J (o:=h.obj b) _ d.hb ?_;refine yv (i:=ti340) (row:=itC (qat m i)) rfl rfl (Aq g) ?_;refine⟨Rb _ _ _ _ (λz hz=>⟨O,?_⟩),O⟩;refine ya ?_;refine zg (λc2=>?_) (λc2=>?_);rotate_left
  .have P:=hfin h m (.inr ⟨b,w,_,d⟩) (i6 E hmin (λhh=>ψn)) H;refine Qc zb Vv ?_;refine⟨⟨⟨rfl,O⟩,⟨⟨O,⟨⟨O,?_⟩,O⟩⟩,O⟩⟩,O⟩;exact ret P
  obtain⟨D,C⟩:=i7 E Z e A hmin (hz.1 c2);have u:=d.set g (qat m (2*i+2));have hkl2:2*i+2<(m.set i (qat m (2*i+2))).length:=by rw[Faf];exact e
  have B:=u.set hkl2 (qat m i);refine Qc zb gw ?_;refine J (o:=h.obj p) _ d.hp ?_;refine J (o:=h.obj p) _ d.hp ?_;refine J (o:=h.obj p) _ d.hp ?_;refine⟨2*i+2,Z,e,?_⟩;refine J (o:=h.obj b) _ d.hb ?_;refine yv (i:=ti340) (row:=itC (qat m (2*i+2))) rfl rfl (Aq e) ?_;refine J (o:=h.obj p) _ d.hp ?_;refine⟨i,rfl,g,?_⟩;refine J (o:=h.obj b) _ d.hb ?_;refine yv (i:=ti340) (row:=itC (qat m i)) rfl rfl (Aq g) ?_;refine⟨i,rfl,g,?_⟩;refine⟨?_,O⟩;refine J _ rfl (ju rfl (jr (v:=.agg (itC (qat m (2*i+2)))) rfl rfl rfl rfl ?_));refine kh (i:=ti340) (xs:=itC (qat m (2*i+2))) rfl rfl rfl d.hb (Ih g _) ?_;refine⟨O,?_⟩;refine⟨2*i+2,Z,e,?_⟩;refine⟨?_,O⟩;refine J _ rfl (ju rfl (jr (v:=.agg (itC (qat m i))) rfl rfl rfl rfl ?_));refine kh (i:=ti340) (xs:=itC (qat m i)) rfl rfl rfl u.hb (Ih hkl2 _) ?_;refine⟨O,?_⟩;have hlen2:(Al m i (2*i+2)).length=Γ m:=M5 _ _ _;refine⟨(2*i+2,_,Al m i (2*i+2)),?_,⟨rfl,B,D,C.trans H,ζ,ζ⟩,⟨Y,Y,Y,?_,O⟩,⟨rfl,O⟩⟩
  .show n-(2*i+2)<n-i;omega
  .exact LV.le_int Z
 .have e:2*i+1<Γ m:=hkl0;have A:par (2*i+1)=i:=(Rf Z).2 (.inl rfl);have hmin:=pi (f:=qat m) (n:=Γ m) (i:=i) (k:=2*i+1) (.inl ⟨rfl,λhx hh=>by rw[T.2 hh]at X;cases X⟩);refine Qc zb gy ?_;refine J (o:=h.obj p) _ d.hp ?_;refine⟨2*i+1,Z,e,?_⟩;refine J (o:=h.obj b) _ d.hb ?_;refine yv (i:=ti340) (row:=itC (qat m (2*i+1))) rfl rfl (Aq e) ?_;refine J (o:=h.obj p) _ d.hp ?_;refine⟨i,rfl,g,?_⟩;refine J (o:=h.obj b) _ d.hb ?_;refine yv (i:=ti340) (row:=itC (qat m i)) rfl rfl (Aq g) ?_;refine⟨Rb _ _ _ _ (λz hz=>⟨O,?_⟩),O⟩;refine ya ?_;refine zg (λc2=>?_) (λc2=>?_);rotate_left
  .have P:=hfin h m (.inr ⟨b,w,_,d⟩) (i6 E hmin (λhh=>ψn)) H;refine Qc zb Vv ?_;refine⟨⟨⟨rfl,O⟩,⟨⟨O,⟨⟨O,?_⟩,O⟩⟩,O⟩⟩,O⟩;exact ret P
  obtain⟨D,C⟩:=i7 E Z e A hmin (hz.1 c2);have u:=d.set g (qat m (2*i+1));have hkl2:2*i+1<(m.set i (qat m (2*i+1))).length:=by rw[Faf];exact e
  have B:=u.set hkl2 (qat m i);refine Qc zb gw ?_;refine J (o:=h.obj p) _ d.hp ?_;refine J (o:=h.obj p) _ d.hp ?_;refine J (o:=h.obj p) _ d.hp ?_;refine⟨2*i+1,Z,e,?_⟩;refine J (o:=h.obj b) _ d.hb ?_;refine yv (i:=ti340) (row:=itC (qat m (2*i+1))) rfl rfl (Aq e) ?_;refine J (o:=h.obj p) _ d.hp ?_;refine⟨i,rfl,g,?_⟩;refine J (o:=h.obj b) _ d.hb ?_;refine yv (i:=ti340) (row:=itC (qat m i)) rfl rfl (Aq g) ?_;refine⟨i,rfl,g,?_⟩;refine⟨?_,O⟩;refine J _ rfl (ju rfl (jr (v:=.agg (itC (qat m (2*i+1)))) rfl rfl rfl rfl ?_));refine kh (i:=ti340) (xs:=itC (qat m (2*i+1))) rfl rfl rfl d.hb (Ih g _) ?_;refine⟨O,?_⟩;refine⟨2*i+1,Z,e,?_⟩;refine⟨?_,O⟩;refine J _ rfl (ju rfl (jr (v:=.agg (itC (qat m i))) rfl rfl rfl rfl ?_));refine kh (i:=ti340) (xs:=itC (qat m i)) rfl rfl rfl u.hb (Ih hkl2 _) ?_;refine⟨O,?_⟩;have hlen2:(Al m i (2*i+1)).length=Γ m:=M5 _ _ _;refine⟨(2*i+1,_,Al m i (2*i+1)),?_,⟨rfl,B,D,C.trans H,ζ,ζ⟩,⟨Y,Y,Y,?_,O⟩,⟨rfl,O⟩⟩
  .show n-(2*i+1)<n-i;omega
  .exact LV.le_int Z
end Go.Proofs
