/- Lemmas of thronglaw29; no conditions. -/
import Derived.Test.YtphhbmaalpdnoaaGreatLA
set_option linter.unusedSimpArgs false
set_option linter.unusedVariables false
set_option linter.defProp false
open List renaming length→Γ
open Option renaming some→Δ,none→Θ
namespace Go.Proofs
open Go Go.V Tryz
set_option maxRecDepth 20000
set_option maxHeartbeats 4000000
def rdO(p:Nat)(s:Rd)(a:Store):Store:=a.sO p (.cells [yn s.b,int s.e])
def yc(p:Nat)(s:Rd)(a:Store):(rdO p s a).obj p=Δ (.cells [yn s.b,int s.e]):=zd _ _ _
theorem V7(p:Nat)(s:Rd)(a:Store)(b:List UInt8)(e:Int):(rdO p s a).sO p (.cells [yn b,int e])=rdO p ⟨b,e⟩ a:=ym _ _ _ _
def zf2(p:Nat)(s:Rd)(st:Store)(e:Int)(R:Ja)(h:R (.tup []) (rdO p (s.fail e) st)):Jb 119 [ptr p,int e] (rdO p s st) R:=by
 refine Qy 13 func119 ?_;first|refine J _ (yc p s st) ?_|refine optR (J _ (yc p s st) ?_)|refine optR (optR (J _ (yc p s st) ?_))
 unfold Rd.fail at h;refine zp (λa=>?_) (λa=>?_)
 .rw[if_pos a]at h;first|refine J _ (yc p s st) ?_|refine optR (J _ (yc p s st) ?_)|refine optR (optR (J _ (yc p s st) ?_))
  refine⟨φ,?_⟩;refine ret ?_;show R _ ((rdO p s st).sO p (.cells [yn s.b,int e]));rw[V7];exact h
 .rw[if_neg a]at h;exact ret h
def Nx(p:Nat)(s:Rd)(st:Store)(ok:Bool)(R:Ja)(h:R (.tup []) (rdO p (s.must ok) st)):Jb 57 [ptr p,bool ok] (rdO p s st) R:=by
 refine Qy 8 func57 ?_;cases ok with
 |true=>exact ret h
 |false=>exact zf2 p s st 1 _ (ret h)
def za6(p:Nat)(s:Rd)(st:Store)(n:Int)(k:Nat)(e:Int)(d:s.e=0->e=0->k<=Γ s.b)(R:Ja)(h:R (int (s.take n k e).1) (rdO p (s.take n k e).2 st)):Jb 118 [ptr p,int n,int k,int e] (rdO p s st) R:=by
 refine Qy 27 func118 ?_;refine zf2 p s st e _ ?_;unfold Rd.take at h;first|refine J _ (yc p _ st) ?_|refine optR (J _ (yc p _ st) ?_)|refine optR (optR (J _ (yc p _ st) ?_))
 refine qd (λh1=>?_) (λh1=>?_)
 .rw[if_pos h1]at h;exact ret h
 .rw[if_neg θe]at h;have a:s.fail e=⟨s.b,0⟩/\k<=Γ s.b:=by
   unfold Rd.fail at h1⊢;split at h1
   .rename_i c;simp only at h1;rw[if_pos c,h1];exact⟨rfl,d c h1⟩
   .rename_i c;exact absurd h1 c
  rw[a.1];first|refine J _ (yc p _ st) ?_|refine optR (J _ (yc p _ st) ?_)|refine optR (optR (J _ (yc p _ st) ?_))
  refine⟨k,(rowsB s.b).length,rfl,rfl,by rw[zj];exact a.2,Fai _,?_⟩;first|refine J _ (yc p _ st) ?_|refine optR (J _ (yc p _ st) ?_)|refine optR (optR (J _ (yc p _ st) ?_))
  refine⟨φ,?_⟩;refine ret ?_;rw[Fal,zaz];show R _ ((rdO p ⟨s.b,0⟩ st).sO p (.cells [yn (s.b.drop k),int 0]));rw[V7];exact h
def zhh(p:Nat)(s:Rd)(st:Store)(R:Ja)(h:R (u8 s.byte.1) (rdO p s.byte.2 st)):Jb 116 [ptr p] (rdO p s st) R:=by
 refine Qy 40 func116 ?_;first|refine J _ (yc p _ st) ?_|refine optR (J _ (yc p _ st) ?_)|refine optR (optR (J _ (yc p _ st) ?_))
 unfold Rd.byte at h;obtain⟨b,e⟩:=s;refine zp (λa=>?_) (λa=>?_)
 .subst a;first|refine J _ (yc p _ st) ?_|refine optR (J _ (yc p _ st) ?_)|refine optR (optR (J _ (yc p _ st) ?_))
  refine zp (λh2=>?_) (λh2=>?_)
  .rw[zj]at h2;obtain rfl:b=[]:=Fa2 θt;first|refine J _ (yc p _ st) ?_|refine optR (J _ (yc p _ st) ?_)|refine optR (optR (J _ (yc p _ st) ?_))
   refine⟨φ,?_⟩;first|refine J _ (zd _ _ _) ?_|refine optR (J _ (zd _ _ _) ?_)|refine optR (optR (J _ (zd _ _ _) ?_))
   refine ret ?_;show R _ ((rdO p ⟨[],0⟩ st).sO p (.cells [yn [],int 11]));rw[V7];exact h
  .rw[zj]at h2;cases b with
   |nil=>simp at h2
   |cons c l=>
   first|refine J _ (yc p _ st) ?_|refine optR (J _ (yc p _ st) ?_)|refine optR (optR (J _ (yc p _ st) ?_))
   first|refine J _ (yc p _ st) ?_|refine optR (J _ (yc p _ st) ?_)|refine optR (optR (J _ (yc p _ st) ?_))
   refine⟨0,rfl,J _ rfl ?_⟩;first|refine J _ (yc p _ st) ?_|refine optR (J _ (yc p _ st) ?_)|refine optR (optR (J _ (yc p _ st) ?_))
   refine⟨1,(rowsB (c::l)).length,rfl,rfl,by rw[zj];simp,Fai _,?_⟩;first|refine J _ (yc p _ st) ?_|refine optR (J _ (yc p _ st) ?_)|refine optR (optR (J _ (yc p _ st) ?_))
   refine⟨φ,?_⟩;refine ret ?_;rw[Fal];show R _ ((rdO p ⟨c::l,0⟩ st).sO p (.cells [yn l,int 0]));rw[V7];exact h
 .rw[if_pos a]at h;first|refine J _ (yc p _ st) ?_|refine optR (J _ (yc p _ st) ?_)|refine optR (optR (J _ (yc p _ st) ?_))
  refine qd (λh2=>?_) (λh2=>absurd h2 a);exact ret h
def gz(p:Nat)(s:Rd)(st:Store)(l:List UInt8){v:AV}(c:AV.le v (yn l))(hl:Γ l<=1000000000000)(R:Ja)(h:R (.tup []) (rdO p (s.same l) st)):Jb 53 [ptr p,v] (rdO p s st) R:=by
 refine ACalls.le (ys:=[ptr p,yn l]) ⟨Tt,c,O⟩ ?_;refine Qy 21 func53 ?_
 refine AWp.loop (σ:=Nat) ⟨λi=>[(0,.av (ptr p)),(7,.av (yn l)),(8,.av (int (Γ l))),(9,.av (int (i)))],λ_=>[],
  λi b=>i<=Γ l/\b=rdO p (s.same (l.take i)) st,λi=>Γ l-i⟩ zb ?_ ?_
 .refine⟨0,O,⟨Fae _,rfl⟩,⟨Y,Y,?_,Y,O⟩,O⟩;rw[<-zj l];exact Y
 .rintro i b ⟨g,rfl⟩;refine bcd (λd=>?_) (λd=>?_)
  .have a:i<Γ l:=Z;refine⟨i,rfl,J _ (zm a) ?_⟩;refine zhh p _ st _ ?_;refine Nx p _ st (((s.same (l.take i)).byte.1.toNat:Int)==(l[i].toNat)) _ ?_;refine⟨⟨Z,Z⟩,?_⟩;refine⟨i+1,?_,⟨a,?_⟩,Qbt,O⟩
   .show Γ l-(i+1)<Γ l-i;omega
   .have e:(((s.same (l.take i)).byte.1.toNat:Int)==(l[i].toNat))=((s.same (l.take i)).byte.1==l[i]):=by
     rw[Fbm];simp only[beq_iff_eq];constructor
     .intro h;exact UInt8.toNat_inj.1 Z
     .intro h;rw[h]
    rw[e,Fab a];unfold Rd.same;rw[Fdu];rfl
  .obtain rfl:i=Γ l:=Z;rw[Fal];exact ret h
def ze6(b:List UInt8)(hb:Γ b<=140737488355328)(st:Store)(R:Ja)(h:R (.tup [int (xl b).1,int (xl b).2.1,int (xl b).2.2]) st):Jb 120 [yn b] st R:=by
 refine Qy 42 func120 ?_
 refine AWp.loop (σ:=Nat×Int) ⟨λs=>[(2,.av (int s.2)),(7,.av (yn b)),(8,.av (int (Γ b))),(9,.av (int (s.1:Nat)))],λ_=>[],
  λs e=>s.1<=Γ b/\s.1<=8/\e=st/\Ci (b.drop s.1) s.1 s.2=xl b/\0<=s.2/\s.2<128^s.1,λs=>Γ b-s.1⟩ zb ?_ ?_
 .refine⟨(0,0),O,⟨Fae _,φ,rfl,rfl,ψ,ψ⟩,⟨Y,Y,?_,Y,O⟩,O⟩;rw[<-zj (f:=u8C) b];exact Y
 .rintro⟨i,n⟩ e ⟨v,t,rfl,a,l,hn⟩;dsimp only at v t a l hn⊢;refine bcd (λy=>?_) (λy=>?_)
  .have d:i<Γ b:=Z;refine⟨i,rfl,J _ (zm d) ?_⟩;rw[Fcs d]at a;unfold Ci at a;have o:b[i].toNat%128<128:=Nat.mod_lt _ Z;have p:=Vo (x:=b[i].toNat%128) l hn o;have z:=Wi (i:=i+1) Z;refine⟨?_,⟨Z,Z⟩,Z,?_⟩
   .rw[zid];exact⟨Z,Z⟩
   have c:xf .or .i64 n (IntKind.i64.wrap (xf .and .u8 b[i].toNat 127*2^(min ((7:Int)*(i:Int)).toNat IntKind.i64.bits)))=n+(b[i].toNat%128:Nat)*128^i:=by rw[zid];exact or7 l hn o t
   refine bcd (λw=>?_) (λw=>?_)
   .refine zp (λu=>?_) (λu=>?_)
    .rw[if_pos (.inl ⟨Z,Z⟩)]at a;refine zp (λ_=>?_) (λh=>absurd u h);rw[<-a]at h;exact ret h
    .refine zp (λk=>by exfalso;omega) (λk=>?_);rw[if_neg Z,if_neg Z]at a;refine bcd (λj=>by exfalso;omega) (λj=>?_);refine⟨⟨Z,Z⟩,?_⟩;refine⟨(i+1,n+(b[i].toNat%128:Nat)*128^i),?_,⟨d,Z,rfl,a,p.1,p.2⟩,⟨?_,Y,Y,Y,O⟩,O⟩
     .show Γ b-(i+1)<Γ b-i;omega
     .simp only;rw[<-c];exact Y
   .refine zp (λk=>?_) (λk=>?_)
    .refine bcd (λj=>?_) (λj=>?_)
     .rw[if_pos (.inr ⟨Z,Z⟩)]at a;rw[<-a]at h;exact ret h
     .rw[if_neg Z,if_pos Z]at a;refine bcd (λg=>?_) (λg=>by exfalso;omega);refine⟨⟨Z,Z⟩,?_⟩;rw[<-a,<-c]at h;exact ret h
    .rw[if_neg Z,if_pos Z]at a;refine bcd (λg=>?_) (λg=>by exfalso;omega);refine⟨⟨Z,Z⟩,?_⟩;rw[<-a,<-c]at h;exact ret h
  .obtain rfl:i=Γ b:=Z;rw[Fen]at a;rw[<-a]at h;exact ret h
def lr(p:Nat)(s:Rd)(st:Store)(c a:Int)(hb:Γ s.b<=140737488355328)(R:Ja)(h:R (int (s.num c a).1) (rdO p (s.num c a).2 st)):Jb 58 [ptr p,int c,int a] (rdO p s st) R:=by
 refine Qy 40 func58 ?_;first|refine J _ (yc p s st) ?_|refine optR (J _ (yc p s st) ?_)|refine optR (optR (J _ (yc p s st) ?_))
 unfold Rd.num Rd.got at h;refine qd (λh1=>?_) (λh1=>?_)
 .rw[if_pos h1]at h;exact ret h
 rw[if_neg θe]at h;first|refine J _ (yc p s st) ?_|refine optR (J _ (yc p s st) ?_)|refine optR (optR (J _ (yc p s st) ?_))
 refine ze6 s.b hb _ _ ?_;have hf:=nw s.b;refine za6 p s st _ _ _ (λ_ f=>Z) _ ?_;generalize s.take (xl s.b).1 (xl s.b).2.1 (xl s.b).2.2=t at h⊢;refine bcd (λd=>?_) (λd=>?_)
 .refine Nx p t.2 st (decide (t.1<=a)) _ ?_;have e:inB t.1 c a=decide (t.1<=a):=by unfold inB;simp;omega
  rw[e]at h;exact ret h
 .refine Nx p t.2 st false _ ?_;have e:inB t.1 c a=false:=by unfold inB;simp;omega
  rw[e]at h;exact ret h
def yte(l:List UInt8)(hl:Γ l<=100000000000000)(st:Store)(R:Ja)(h:R (yn l) st):Jb 131 [yn l] st R:=by
 refine Qy 8 func131 ?_;intro b hb;cases b with
 |true=>
  have:l=[]:=ψo;subst this;exact Az h (Store.Has.refl _) (AV.le_nil 1)
 |false=>
  refine⟨ψ,?_⟩;refine Bh (bs:=[]) (.inr (.inl ⟨rfl,rfl,rfl⟩)) ξ χ (λv c a=>?_);exact Az h a.has a.le
def ypi(b:List UInt8)(hb:Γ b<=140737488355328)(st:Store)(R:Ja)(h:R (.tup [yn (D7 b).1,int (D7 b).2.1,int (D7 b).2.2]) st):Jb 117 [yn b] st R:=by
 refine Qy 36 func117 ?_;refine ze6 b hb _ _ ?_;have hf:=nw b;unfold D7 at h;generalize xl b=g at h hf⊢;have nl:AV.le (.s (.slice Θ 0 0)) (yn []):=AV.le_nil 1;refine qd (λh1=>?_) (λh1=>?_)
 .rw[if_pos h1]at h;exact Az h (Store.Has.refl _) (AV.le_tupL ⟨nl,Tt,Tt,O⟩)
 rw[if_neg θe]at h;refine bcd (λc=>?_) (λc=>?_)
 .rw[if_pos c]at h;exact Az h (Store.Has.refl _) (AV.le_tupL ⟨nl,Tt,Tt,O⟩)
 rw[if_neg c]at h;refine⟨by rw[zj];exact⟨Z,Z⟩,?_⟩;refine bcd (λa=>?_) (λa=>?_)
 .rw[zj]at a;rw[if_pos a]at h;exact Az h (Store.Has.refl _) (AV.le_tupL ⟨nl,Tt,Tt,O⟩)
 rw[zj]at a;rw[if_neg a]at h;refine⟨⟨Z,Z⟩,?_⟩;refine⟨g.2.1,g.2.1+g.1.toNat,rfl,?_,Z,θg,?_⟩
 .show(g.2.1)+g.1=((g.2.1+g.1.toNat))
  omega
 have e:((rowsB b).take (g.2.1+g.1.toNat)).drop g.2.1=rowsB ((b.drop g.2.1).take g.1.toNat):=by rw[g9,zaz,List.drop_take,Nat.add_sub_cancel_left]
 rw[e];refine yte ((b.drop g.2.1).take g.1.toNat) χ _ _ ?_;refine⟨⟨Z,Z⟩,?_⟩;have d:((g.2.1)+g.1)=((g.2.1+g.1.toNat:Nat)):=Z;rw[<-d]at h;exact ret h
def yja(p:Nat)(s:Rd)(st:Store)(hb:Γ s.b<=140737488355328)(R:Ja)(h:R (yn s.raw.1) (rdO p s.raw.2 st)):Jb 55 [ptr p] (rdO p s st) R:=by
 refine Qy 25 func55 ?_;first|refine J _ (yc p s st) ?_|refine optR (J _ (yc p s st) ?_)|refine optR (optR (J _ (yc p s st) ?_))
 unfold Rd.raw at h;refine qd (λh1=>?_) (λh1=>?_)
 .rw[if_pos h1]at h;exact Az h (Store.Has.refl _) (AV.le_nil 1)
 rw[if_neg θe]at h;first|refine J _ (yc p s st) ?_|refine optR (J _ (yc p s st) ?_)|refine optR (optR (J _ (yc p s st) ?_))
 refine ypi s.b hb _ _ ?_;exact za6 p s st 0 _ _ (λ_ a=>ypj a) _ (ret h)
def yqv(p:Nat)(s:Rd)(st:Store)(R:Ja)(h:R (.tup []) (rdO p s.fin st)):Jb 60 [ptr p] (rdO p s st) R:=by
 refine Qy 10 func60 ?_;first|refine J _ (yc p s st) ?_|refine optR (J _ (yc p s st) ?_)|refine optR (optR (J _ (yc p s st) ?_))
 refine Nx p s st (((rowsB s.b).length:Int)==0) _ ?_;have e:(((rowsB s.b).length:Int)==0)=(Γ s.b==0):=by rw[zj,Fbm];simp
 rw[e];exact ret h
end Go.Proofs
namespace Go.Proofs
open Go Go.V
set_option maxRecDepth 20000
set_option maxHeartbeats 4000000
def yi2{p:Nat}{s:Rd}{a:Store}(h:a.obj p=Θ):(rdO p s a).Has a:=Cw h
end Go.Proofs
namespace Go.Proofs
open Go Go.V Tryz
set_option maxRecDepth 20000
set_option maxHeartbeats 4000000
def ym5:AV.le nil (yn []):=AV.le_nil 1
def ymp(b:List UInt8)(S:Γ b<=1048576)(st:Store)(R:Ja)(h:R (.tup [.agg (zq (Wx b).1),int (Wx b).2]) st):Jb 56 [yn b] st R:=by
 refine Qa (c:=cfg 77 [10,12] [25]) zb func56 ?_;intro p G;refine⟨ψ,λP y=>?_⟩;refine optR (optR (optR (J _ (Ka _ _ _) ?_)));refine ACalls.drop (st':=rdO p ⟨b,0⟩ st) (zeu y.2) ?_;refine gz p ⟨b,0⟩ st [84,71] (AV.le_tok _ _ _) φ _ ?_;have E:=g8 ⟨b,0⟩ [84,71];simp only at E;refine lr p _ st 1 128 Z _ ?_;have Q:=ls (Rd.same ⟨b,0⟩ [84,71]) 1 128;refine lr p (Dl b).2 st 1 128 (by unfold Dl;omega) _ ?_;have lt:=ymo b
 refine AWp.loop (σ:=Int×Rd×List UInt8×AV) ⟨λx=>[(0,.av (yn b)),(2,.bx 2 0),(4,.bx 4 0),(5,.av (ptr p)),(6,.av (int x.1))],λx=>[(2,[int 0,int 0,nil]),(4,[int (Dl b).1,int (Dk b).1,x.2.2.2])],
  λx g=>(x.2.1.e=0->0<=x.1/\x.1+Γ x.2.2.1<=16384)/\Rd.tilesGo x.1.toNat x.2.1 x.2.2.1=L7 b/\App 1 (rdO p x.2.1 st) x.2.2.2 (rowsB x.2.2.1) g,λx=>x.1.toNat⟩ zb ?_ ?_
 .refine⟨(IntKind.i64.wrap ((Dl b).1*(Dk b).1),(Dk b).2,[],nil),O,⟨λo=>?_,?_,App.start 1 _⟩,Qbt,Qe⟩
  .have:=zdy o;simp only;rw[O5 ⟨Z,Z⟩];simp;omega
  .simp only;by_cases o:(Dk b).2.e=0
   .have:=zdy o;rw[O5 ⟨Z,Z⟩];rfl
   .unfold L7;rw[Vh o,Vh o]
 rintro⟨m,s,l,v⟩ g ⟨hm,u,w⟩;dsimp only at hm u w⊢;obtain⟨a,rfl,n,I⟩:=w.split;show vc _ _ _ _ _ (rdO p s a);by_cases t:m>0/\s.e=0
 .obtain⟨f,d⟩:=t;refine bcd (λ_=>?_) (λh=>absurd f h);first|refine J _ (yc p _ _) ?_|refine optR (J _ (yc p _ _) ?_)|refine optR (optR (J _ (yc p _ _) ?_))
  refine zp (λ_=>?_) (λh=>absurd d h);obtain⟨U,T⟩:=hm d;refine zhh p s a _ ?_;refine Nx p _ a (decide ((s.byte.1.toNat:Int)<=5)) _ ?_;refine⟨ψ,?_⟩;have K:decide ((s.byte.1.toNat:Int)<=5)=decide (s.byte.1.toNat<=5):=by rw[Fbm];simp;omega
  rw[K];refine Bh (I (.cells [yn (s.byte.2.must (decide (s.byte.1.toNat<=5))).b,int (s.byte.2.must (decide (s.byte.1.toNat<=5))).e])) (l:=[s.byte.1]) ξ χ (λC D j=>?_);refine zzx j.cells j.one ξ ξ φ ?_;refine⟨⟨Z,Z⟩,?_⟩;obtain⟨k,rfl⟩:∃k:Nat,m=k+1:=⟨(m-1).toNat,Z⟩
  have M:((k:Int)+1).toNat=k+1:=Z;rw[M,tq d]at u;refine⟨((k:Int)+1-1,s.byte.2.must (decide (s.byte.1.toNat<=5)),l++[s.byte.1],C),?_,⟨λ_=>?_,?_,j⟩,Qbt,⟨rfl,rfl,O⟩⟩
  .show((k:Int)+1-1).toNat<((k:Int)+1).toNat;omega
  .simp;omega
  .show Rd.tilesGo ((k:Int)+1-1).toNat _ _=_;have L:((k:Int)+1-1).toNat=k:=Z;rw[L];exact u
 .have A:L7 b=(l,s):=by
   rw[<-u];by_cases d:s.e=0
   .have:m.toNat=0:=Z;rw[this];rfl
   .exact Vh d
  rw[A]at lt;have H:Ww b=(s.same (Bt (vo C0 (b.take (Γ b-Γ s.b))))).fin:=by unfold Ww;rw[A]
  unfold Wx at h;rw[A,H]at h;have i:=yi2 (p:=p) (s:=(s.same (Bt (vo C0 (b.take (Γ b-Γ s.b))))).fin) G.1;first|refine bcd (λf=>J _ (yc p s a) (zp (λd=>absurd ⟨f,d⟩ t) (λ_=>?_))) (λf=>?_)|refine bcd (λf=>optR (J _ (yc p s a) (zp (λd=>absurd ⟨f,d⟩ t) (λ_=>?_)))) (λf=>?_)|refine bcd (λf=>optR (optR (J _ (yc p s a) (zp (λd=>absurd ⟨f,d⟩ t) (λ_=>?_))))) (λf=>?_)
  all_goals
   try dsimp only at h lt
   refine Qc zb ybb ?_;first|refine J _ (yc p s a) ?_|refine optR (J _ (yc p s a) ?_)|refine optR (optR (J _ (yc p s a) ?_))
   refine⟨by rw[zj,zj];exact⟨Z,Z⟩,?_⟩;refine⟨0,Γ b-Γ s.b,rfl,by rw[zj,zj];show((Γ b:Int)-(Γ s.b:Int))=((Γ b-Γ s.b:Nat):Int);omega,Z,θg,?_⟩;refine⟨Ph _ _ ⟨⟨rfl,optR (optR (optR (J _ (yc p s a) rfl))),rfl,O⟩,?_⟩,O⟩;refine⟨R4 (l:=b.take (Γ b-Γ s.b)) _ (by rw[g9];exact Tt) θd ⟨O,?_⟩,O⟩;refine⟨zfj _ _ _ ⟨O,?_⟩,O⟩;refine⟨gz p s a (Bt (vo C0 (b.take (Γ b-Γ s.b)))) (Tt) (by rw[R8];omega) _ ⟨O,?_⟩,O⟩;refine yqv p _ a _ ?_;generalize(s.same (Bt (vo C0 (b.take (Γ b-Γ s.b))))).fin=z at h i⊢;first|refine J _ (yc p z a) ?_|refine optR (J _ (yc p z a) ?_)|refine optR (optR (J _ (yc p z a) ?_))
   refine qd (λB=>?_) (λB=>?_)
   .rw[if_pos B]at h;refine Qc zb yba ?_;first|refine J _ (yc p z a) ?_|refine optR (J _ (yc p z a) ?_)|refine optR (optR (J _ (yc p z a) ?_))
    refine Qbw ?_;refine Qbx ?_;exact Az h ((nr n).trans i) (AV.le_tupL ⟨AV.le_aggL ⟨Tt,Tt,ym5,O⟩,Tt,O⟩)
   .rw[if_neg (by simpa using B)]at h;refine zzw (v:=.agg [int (Dl b).1,int (Dk b).1,v]) ξ (by simp only[List.all_cons,List.all_nil,w.one];rfl) ξ ξ φ ?_;exact Az h ((nr n).trans i) (AV.le_tupL ⟨AV.le_aggL ⟨Tt,Tt,w.le,O⟩,Tt,O⟩)
end Go.Proofs
namespace Go.Proofs
open Go Go.V
set_option maxRecDepth 20000
set_option maxHeartbeats 4000000
end Go.Proofs
namespace Go.Proofs
open Go Go.V Tryz
set_option maxRecDepth 20000
set_option maxHeartbeats 4000000
def Ns(n:Int)(st:Store)(R:Ja)(h:R (int n) st):Jb 29 [int n] st R:=by refine Qy 4 func29 ?_;exact ret h
def yi5(f:Store)(R:Ja)(h:R (.tup [yn (Nm rep1),int 0]) f):Jb 38 [.agg (xy rep1)] f R:=by
 have i:zt rep1.G:=rep1_ok.2.1;have lg:=(Og i).2;refine Qa (c:=cfg 82 [24] []) zb func38 ?_;refine zbt rep1 rep1_fits _ _ (zir (λg=>?_) (λg=>absurd rep1_ok g));refine zdz rep1.G i _ _ ?_;refine zb1 _ Z _ _ ?_;refine⟨ψ,λb j=>?_⟩;refine J _ (Ka _ _ _) ?_;refine Ls (n:=1) (bs:=[84,82]) (O2 j (by simp[rws])) φ ψ (λv d a=>?_);refine Bh a (l:=yl (jv rep1.G).length++jv rep1.G) ξ ψ (λv d a=>?_);have k:([84,82]++yl 1++(yl (jv rep1.G).length++jv rep1.G))=Nm rep1:=rfl;rw[k]at a;refine Ph _ _ ?_;refine R4 _ a.le ψ ?_;refine AWp.loop (σ:=Unit) ⟨λs=>[(6,.av v),(36,.av (int 0)),(37,.av (int 0))],λ_=>[],λs e=>e=d,λs=>0⟩ zb ?_ ?_
 .exact⟨(),O,rfl,Qbt,O⟩
 rintro _ _ rfl;exact Az h a.has (AV.le_tupL ⟨a.le,Tt,O⟩)
def yg4(st:Store)(R:Ja)(h:R (.tup [.agg (xy rep1),int 0]) st):Jb 39 [yn (Nm rep1)] st R:=by
 obtain⟨b,u,o,L,K,I,A,z,y,e⟩:∃(b u o:List UInt8),Γ b<=100/\Γ u<=100/\Γ o<=100/\(Rd.same ⟨b,0⟩ [84,82]).num 1 8=(1,⟨u,0⟩)/\(Rd.mk u 0).raw=(o,⟨[],0⟩)/\Wx o=(rep1.G,0)/\Nm rep1=b:=
  ⟨Nm rep1,(Nm rep1).drop 3,jv rep1.G,ψ,ψ,ψ,rfl,rfl,rfl,rfl⟩
 have B:=g8 ⟨b,0⟩ [84,82];rw[e];clear e;refine Qb (c:=cfg 151 [16,18,23] []) zb func39 ?_;refine AWp.seq (AWp.of_vc zb ?_);refine AWp.seq (AWp.of_vc zb ?_);refine bcd (λE=>absurd E θg) (λ_=>?_);refine AWp.seq (AWp.of_vc zb ?_);refine AWp.seq (AWp.of_vc zb ?_);intro p C q hq;have i:q≠p:=λe=>ψ0;have w:st.obj q=Θ:=by have:=hq.1;rwa [zi i]at this
 rw[Fj i];have d:∀{t:Rd} {g:Store} {x:AObj},(rdO p t (g.sO q x)).obj q=Δ x:=by intro t g x;exact(zi i).trans (zd _ _ _)
 have hdrop:∀{t:Rd} {g:Store} {x:AObj},g.Has (st.sO q x)->(rdO p t g).Has st:=by intro t g x D;exact(nr D).trans ((Cw (by rw[zi (Ne.symm i)];exact C.1)).trans (Cw w))
 have k:∀{x:AObj} {S:Store} {t:Rd},(rdO p t S).sO q x=rdO p t (S.sO q x):=Fj i;change AWp _ _ _ _ _ (rdO p ⟨b,0⟩ (st.sO q (.cells [ptr p,int 0,u64 0])));generalize n:st.sO q (.cells [ptr p,int 0,u64 0])=sq;have a:∀{t:Rd},(rdO p t sq).obj q=Δ (.cells [ptr p,int 0,u64 0]):=by intro t;rw[<-n];exact d
 refine AWp.seq (AWp.of_vc zb ?_);first|refine J _ (a) ?_|refine optR (J _ (a) ?_)|refine optR (optR (J _ (a) ?_))
 refine⟨ψ,λH v=>?_⟩;refine optR (optR (optR (J _ (Ka _ _ _) ?_)));refine ACalls.drop (st':=rdO p ⟨b,0⟩ sq) (zeu v.2) ?_;refine gz p ⟨b,0⟩ sq [84,82] (AV.le_tok _ _ _) φ _ ?_;refine AWp.seq (AWp.of_vc zb ?_);first|refine J _ (a) ?_|refine optR (J _ (a) ?_)|refine optR (optR (J _ (a) ?_))
 refine lr p _ sq 1 8 (Fb7 B ζ) _ ?_;rw[A];refine AWp.seq (AWp.of_vc zb ?_);first|refine J _ (a) ?_|refine optR (J _ (a) ?_)|refine optR (optR (J _ (a) ?_))
 refine yja p ⟨u,0⟩ sq ζ _ ?_;rw[z];refine AWp.seq (AWp.of_vc zb ?_);first|refine J _ (a) ?_|refine optR (J _ (a) ?_)|refine optR (optR (J _ (a) ?_))
 first|refine J _ (yc p ⟨[],0⟩ sq) ?_|refine optR (J _ (yc p ⟨[],0⟩ sq) ?_)|refine optR (optR (J _ (yc p ⟨[],0⟩ sq) ?_))
 refine ymp o Z _ _ ?_;rw[y];first|refine J _ (a) ?_|refine optR (J _ (a) ?_)|refine optR (optR (J _ (a) ?_))
 refine Nx p ⟨[],0⟩ sq true _ ?_;refine AWp.seq (AWp.of_vc zb ?_);first|refine J _ (a) ?_|refine optR (J _ (a) ?_)|refine optR (optR (J _ (a) ?_))
 first|refine J _ (yc p ⟨[],0⟩ sq) ?_|refine optR (J _ (yc p ⟨[],0⟩ sq) ?_)|refine optR (optR (J _ (yc p ⟨[],0⟩ sq) ?_))
 refine AWp.seq (AWp.of_vc zb ?_);refine Qc zb ybv ?_;first|refine J _ (a) ?_|refine optR (J _ (a) ?_)|refine optR (optR (J _ (a) ?_))
 first|refine J _ (yc p ⟨[],0⟩ sq) ?_|refine optR (J _ (yc p ⟨[],0⟩ sq) ?_)|refine optR (optR (J _ (yc p ⟨[],0⟩ sq) ?_))
 refine ze (by rw[zj];show _<=(Γ b:Int)-(0:Nat)/\(Γ b:Int)-(0:Nat)<=_;omega) ?_;refine⟨0,Γ b,rfl,by rw[zj];show(Γ b:Int)-(0:Nat)=_;omega,Fae _,ψb,?_⟩;refine⟨Ph _ _ ⟨⟨rfl,rfl,optR (optR (optR (J _ a rfl))),optR (optR (optR (J _ (yc p _ sq) rfl))),rfl,O⟩,?_⟩,O⟩;refine⟨R4 (l:=b.take (Γ b)) _ (by rw[g9];exact Tt) θd ⟨⟨rfl,O⟩,?_⟩,O⟩;generalize vo _ (b.take (Γ b))=sum0;rw[<-n];first|refine⟨optR (optR (J _ d ⟨φ,Cz ?_⟩)),O⟩|refine⟨optR (optR (optR (J _ d ⟨φ,Cz ?_⟩))),O⟩|refine⟨optR (optR (optR (optR (J _ d ⟨φ,Cz ?_⟩)))),O⟩
 rw[k,ym];refine⟨O,?_⟩;first|refine⟨optR (optR (J _ d ⟨Fai 3,Cz ?_⟩)),O⟩|refine⟨optR (optR (optR (J _ d ⟨Fai 3,Cz ?_⟩))),O⟩|refine⟨optR (optR (optR (optR (J _ d ⟨Fai 3,Cz ?_⟩)))),O⟩
 rw[k,ym];refine⟨O,?_⟩;have f:(rdO p ⟨[],0⟩ (st.sO q (.cells [ptr p,int 1,u64 sum0]))).obj q=Δ (.cells [ptr p,int 1,u64 sum0]):=d
 refine AWp.meet (σ:=Unit) ⟨λx=>[(2,.bx 2 0),(4,.bx 4 0),(5,.av (ptr q))],λx=>[(2,[int 0,int 0,int 0,nil,nil]),(4,[int 1,int 1,int 1,yn [0],nil])],
  λx j=>j=rdO p ⟨[],0⟩ (st.sO q (.cells [ptr p,int 1,u64 sum0]))⟩ zb ?_ ?_
 rotate_left
 .rintro _ _ rfl;refine AWp.of_vc zb ?_;refine Qc zb ybu ?_;first|refine J _ (f) ?_|refine optR (J _ (f) ?_)|refine optR (optR (J _ (f) ?_))
  first|refine J _ (yc p ⟨[],0⟩ _) ?_|refine optR (J _ (yc p ⟨[],0⟩ _) ?_)|refine optR (optR (J _ (yc p ⟨[],0⟩ _) ?_))
  refine⟨⟨⟨optR (optR (optR (J _ f rfl))),optR (optR (optR (J _ (yc p ⟨[],0⟩ _) rfl))),O⟩,?_⟩,O⟩;refine Qbx ?_;exact Az h (hdrop (Store.Has.refl _)) (AV.le_tupL ⟨AV.le_aggL ⟨Tt,Tt,Tt,Tt,AV.le_nil 3,O⟩,Tt,O⟩)
 refine AWp.loop (σ:=Unit) ⟨λx=>[(2,.bx 2 0),(4,.bx 4 0),(5,.av (ptr q))],λx=>[(2,[int 0,int 0,int 0,nil,nil]),(4,[int 1,int 1,int 1,yn [0],nil])],
  λx j=>j=rdO p ⟨[],0⟩ (st.sO q (.cells [ptr p,int 1,u64 sum0])),λx=>0⟩ zb ?_ ?_
 .exact⟨(),O,rfl,Qbt,⟨rfl,rfl,O⟩⟩
 rintro _ _ rfl;first|refine J _ (f) ?_|refine optR (J _ (f) ?_)|refine optR (optR (J _ (f) ?_))
 first|refine J _ (yc p ⟨[],0⟩ _) ?_|refine optR (J _ (yc p ⟨[],0⟩ _) ?_)|refine optR (optR (J _ (yc p ⟨[],0⟩ _) ?_))
 exact⟨(),rfl,Qbt,⟨rfl,rfl,O⟩⟩
def yrc(st:Store)(R:Ja)(h:R (V.bool true) st):Jb 98 [lst 3 xc [],lst 3 xc []] st R:=by
 refine Qy 27 func98 ?_;refine AWp.loop (σ:=Unit) ⟨λi=>[(0,.av (lst 3 xc [])),(1,.av (lst 3 xc [])),(5,.av (int 0))],λ_=>[],λi S=>S=st,λi=>0⟩ zb ?_ ?_
 .exact⟨(),O,rfl,Qbt,O⟩
 rintro _ _ rfl;exact ret h
def yq7(st:Store)(R:Ja)(h:R (V.bool true) st):Jb 40 [.agg (xy rep1),.agg (xy rep1)] st R:=by refine Qy 24 func40 ?_;refine yrb rep1.G rep1.G rep1_fits.1 _ _ ?_;rw[decide_eq_true rfl];refine yrc _ _ ?_;exact ret h
def ry(st:Store)(R:Ja)(h:R (V.bool true) st):Jb 34 [] st R:=by refine Qy 32 func34 ?_;refine⟨ψ,?_⟩;have le1:AV.le (.agg [int 1,int 1,int 1,yn [0],nil]) (.agg (xy rep1)):=AV.le_aggL ⟨Tt,Tt,Tt,Tt,AV.le_nil 3,O⟩;refine ACalls.le (ys:=[.agg (xy rep1)]) ⟨le1,O⟩ ?_;refine yi5 _ _ ?_;refine yg4 _ _ ?_;refine Ns 0 _ _ ?_;refine Ns 0 _ _ ?_;refine ACalls.le (ys:=[.agg (xy rep1),.agg (xy rep1)]) ⟨Tt,le1,O⟩ ?_;refine yq7 _ _ ?_;exact ret h
def yoc(r:Rep)(D:r.sized)(st:Store)(R:Ja)(h:∀b:Bool,(b=false->r.light)->R (bool b) st):Jb 78 [.agg (xy r)] st R:=by
 refine Qy 27 func78 ?_;obtain⟨L,hf,p⟩:=D
 refine AWp.loop (σ:=Nat×Int) ⟨λs=>[(1,.bx 1 0),(3,.av (int s.2)),(4,.av (int (s.1:Nat)))],λ_=>[(1,xy r)],
  λs d=>s.1<=Γ r.F/\d=st/\(F8 (r.F.take s.1):Int)<=s.2/\s.2<=400/\∀f∈r.F.take s.1,∀c∈f.C,Γ c.U<=400,λs=>Γ r.F-s.1⟩ zb ?_ ?_
 .exact⟨(0,0),O,⟨Fae _,rfl,by simp[F8],φ,λf hf=>by simp at hf⟩,Qbt,⟨rfl,O⟩⟩
 rintro⟨i,n⟩ d ⟨u,rfl,hn,l,g⟩;dsimp only at u hn l g⊢;refine zg (λt=>?_) (λt=>?_)
 .have a:i<Γ r.F:=ql t;have e:=p _ (Faa a);refine Qd ?_;refine⟨i,rfl,J _ (zm a) ?_⟩;refine ysf r.F[i].C e.1 e.2 _ _ (λw B j A=>?_);refine Qd ?_;refine bcd (λI=>?_) (λI=>?_)
  .exact ret (h true (λh=>ω))
  .refine Qd ?_;refine⟨(i+1,n+1+w),(show Γ r.F-(i+1)<Γ r.F-i by omega),⟨a,rfl,?_,by simp only;omega,λf hf c v=>?_⟩,Qbt,⟨rfl,O⟩⟩
   .simp only;rw[zjb a];omega
   .simp only at hf;rw[Fab a]at hf;rcases Faw.1 hf with hf|hf
    .exact g f hf c v
    .rw[Fci]at hf;subst hf;have:=j Z c v;omega
 .have o:i=Γ r.F:=qr t u;subst o;rw[Fal]at hn g;refine ACalls.le (ys:=[.agg (zq r.G),lst 6 zk []]) ⟨Tt,AV.le_nil 6,O⟩ ?_;refine yov r.G [] _ _ (λz y=>ret (h _ λhb=>⟨Z,g,?_⟩));subst hb;exact Nat.le_of_not_lt λE=>nomatch y.2 (.inl E)
def yob(a:Ask29)(d:a.sized)(st:Store)(R:Ja)(h:∀b:Bool,(b=false->a.R.light)->R (bool b) st):Jb 26 [.agg (K3 a)] st R:=by refine Qy 12 func26 ?_;refine yoc a.R d.1 _ _ (λb hb=>?_);refine zg (λ_=>ret (h true (λh=>nomatch h))) (λc=>ret (h _ λ_=>hb c))
def yq9(l:List Int)(hl:Γ l<=1000000000)(st:Store)(R:Ja)(h:R (V.bool true) st):Jb 31 [lst 1 Ac l,lst 1 Ac l] st R:=by
 refine Qy 26 func31 ?_;refine qd (λc=>absurd rfl c) (λ_=>?_);refine AWp.loop (σ:=Nat) ⟨λi=>[(0,.av (lst 1 Ac l)),(1,.av (lst 1 Ac l)),(5,.av (int (i:Nat)))],λ_=>[],λi S=>i<=Γ l/\S=st,λi=>Γ l-i⟩ zb ?_ ?_
 .exact⟨0,O,⟨Fae _,rfl⟩,Qbt,O⟩
 rintro i S ⟨b,rfl⟩;refine zg (λc=>?_) (λc=>ret h);have a:=ql c;refine Qc zb ycd ?_;refine⟨i,rfl,J _ (zm a) ?_⟩;refine⟨i,rfl,J _ (zm a) ?_⟩;refine qd (λc=>absurd rfl c) (λ_=>?_);refine Qd ?_;exact⟨i+1,(show Γ l-(i+1)<Γ l-i by omega),⟨a,rfl⟩,Qbt,O⟩
def zfh:∀(l:List UInt8) (s:Int),0<=s/\s<18446744073709551616->0<=vo s l/\vo s l<18446744073709551616
 |[],_,h=>h
 |c::l,s,_=>zfh l _ (by unfold oe;rw[K9];omega)
def za4:∀(w:Wld) (l:List Frm),∀x∈ki w l,0<=x/\x<18446744073709551616
 |w,f::l,x,h=>by
  rcases Fa7.1 h with rfl|h
  .exact zfh _ _ (by unfold C0;decide)
  .exact za4 _ l x h
theorem za3:∀(w:Wld) (l m:List Frm),(l.map λf=>f.C)=(m.map λf=>f.C)->ki w l=ki w m
 |_,[],[],_=>rfl
 |w,f::l,g::m,h=>by rw[Fb5,Fb5,Fck]at h;show Gd (ja w f.C)::ki (ja w f.C) l=Gd (ja w g.C)::ki (ja w g.C) m;rw[h.1,za3 _ l m h.2]
def Mq(F:List Frm)(H:List Int)(k:Nat)(m:List Frm):Prop:=Γ m=Γ F/\∀j,(h:j<Γ F)->(a:j<Γ m)->m[j].turn=F[j].turn/\m[j].C=F[j].C/\(j<k->H[j]?=Δ m[j].hash)
section
variable {r:Rep} {m:List Frm} {H:List Int} {k:Nat}
def ze9(h:Mq r.F H k m)(g:r.fits)(a:Dh r):Rep.fits {r with F:=m}/\Dh {r with F:=m}/\ki (j2 r.G r.P) m=ki (j2 r.G r.P) r.F:=by
 obtain⟨l,i⟩:=h;refine⟨⟨g.1,by rw[l];exact g.2.1,λf p=>?_⟩,⟨a.1,a.2.1,by rw[l];exact a.2.2.1,λj d=>?_⟩,za3 _ _ _ ?_⟩
 .obtain⟨j,d,rfl⟩:=Faj p;replace d:j<Γ m:=d;have b:j<Γ r.F:=Z;have e:=(i j b d).2.1;show m[j].C.length<=_/\∀c∈m[j].C,_;rw[e];exact g.2.2 _ (Faa b)
 .replace d:j<Γ m:=d;have b:j<Γ r.F:=Z;obtain⟨u,t,_⟩:=i j b d;have:=a.2.2.2 j b;show m[j].turn=j/\Mf r.P m[j].C;rw[u,t];exact this
 .refine Fcz (by simp[l]) λj o n=>?_;rw[Fbj,Fbj];simp at o n;exact(i j n o).2.1
def ypu(h:Mq r.F H (Γ r.F) m)(b:Γ H=Γ r.F):(m.map λf=>f.hash)=H:=by obtain⟨e,d⟩:=h;refine Fcz (by simp[e,b]) λj a c=>?_;rw[Fbj];simp at a;have:=(d j Z a).2.2 Z;rw[Fac c]at this;exact(Option.some.inj this).symm
def ypt(h:Mq r.F H k m)(n:k<Γ m){x:Int}(d:H[k]?=Δ x):Mq r.F H (k+1) (m.set k {m[k]with hash:=x}):=by
 obtain⟨i,g⟩:=h;refine⟨by rw[Faf];exact i,λj f a=>?_⟩;rw[Faf]at a;obtain⟨c,b,l⟩:=g j f a;by_cases e:k=j
 .subst e;rw[Fbi];exact⟨c,b,λ_=>d⟩
 .rw[List.getElem_set_ne e];exact⟨c,b,λo=>l Z⟩
def yps{i:Nat}(h:Mq r.F H k m)(n:i<Γ m)(x:Int):Mq r.F H 0 (m.set i {m[i]with hash:=x}):=by
 obtain⟨l,g⟩:=h;refine⟨by rw[Faf];exact l,λj f b=>?_⟩;rw[Faf]at b;obtain⟨d,c,_⟩:=g j f b;by_cases e:i=j
 .subst e;rw[Fbi];exact⟨d,c,λa=>nomatch a⟩
 .rw[List.getElem_set_ne e];exact⟨d,c,λa=>nomatch a⟩
def zbf{S:Store}{b a n i:Nat}{L:List AV}(h:i<Γ m)(x:Int)(g:Γ m=n)(f:Γ m<=a)(d:a*3<=Γ m*3+Γ L)(c:a<=9223372036854775807):
  RowsO 3 xc (S.sO b (.cells (zu ((rws xc m).flatten++L) (0+i*3+2) [u64 x]))) (.s (.slice (Δ ⟨b,0,Θ⟩) n a)) (m.set i {m[i]with hash:=x}):=by
 have e:=Lm (L:=L) R1 h (x':={m[i]with hash:=x}) (ys:=[u64 x]) (j:=2) (show 2+1<=3 by decide) rfl;rw[Fbd,e];exact .inr ⟨b,a,L,by rw[Faf,g],zd _ _ _,by rw[Faf];exact f,by rw[Faf];exact d,c⟩
def yog{i:Nat}{L:List AV}(a:i<Γ m):(((rws xc m).flatten++L).drop (0+i*3+2)).head?=Δ (u64 m[i].hash):=by
 have b:(rws xc (m.take i)).flatten.length=i*3:=by rw[qu R1,Fah,Fd8 Z]
 rw[Po a,Faq,Fbd,<-b,<-Fdb,List.drop_left];rfl
end
def ysx(r:Rep)(c:r.fits)(d:Γ r.F<=1000000)(a:Store)(R:Ja)(h:∀v S,RowsO 3 xc S v r.F->R (.agg (Nl r v)) S):Jb 32 [.agg (xy r)] a R:=by rw[<-jx a];exact ACalls.frame (F4 a) (ysy r c d (λx N=>∃v,RowsO 3 xc N v r.F/\x=.agg (Nl r v)) λv N b=>⟨v,b,rfl⟩) λx N ⟨v,b,e⟩ f=>e▸h v _ (b.unL f)
def yih(l:List Ask29)(hs:∀a∈l,a.sized):Jb 5 [lst 6 K3 l] Store.empty λr _=>r=V.bool true:=by
 refine Qy 156 func5 ?_;refine AWp.loop (σ:=Nat) ⟨λi=>[(0,.av (lst 6 K3 l)),(3,.av (int (i:Nat)))],λ_=>[],λi _=>i<=3,λi=>3-i⟩ zb ?_ ?_
 .exact⟨0,O,Fae _,⟨Y,Y,O⟩,O⟩
 rintro i S0 hi;dsimp only at hi;refine zg (λh1=>?_) (λh1=>?_);rotate_left
 .refine ACalls.le (ys:=[.agg (zo Sw),int 1]) ⟨AV.le_aggL ⟨Tt,Tt,Tt,Tt,Tt,AV.le_nil 1,AV.le_nil 6,AV.le_nil 10,O⟩,Tt,O⟩ ?_;refine Pw Sw ψ 1 _ _ ?_;refine ry _ _ ?_;exact ret rfl
 have d:i<Γ l:=ql h1;refine bcd (λh2=>?_) (λh2=>?_);rotate_left
 .refine ACalls.le (ys:=[.agg (zo Sw),int 1]) ⟨AV.le_aggL ⟨Tt,Tt,Tt,Tt,Tt,AV.le_nil 1,AV.le_nil 6,AV.le_nil 10,O⟩,Tt,O⟩ ?_;refine Pw Sw ψ 1 _ _ ?_;refine ry _ _ ?_;exact ret rfl
 refine⟨i,rfl,J _ (zm d) ?_⟩;refine yob l[i] (hs _ (Faa d)) _ _ (λb hb=>?_);refine zg (λ_=>ret rfl) (λh3=>?_);have hf:=ym0 (hb h3);refine⟨i,rfl,J _ (zm d) ?_⟩;refine bcd (λ_=>ret rfl) (λh4=>?_);have hF:l[i].R.F.length<=12:=by rw[zj]at h4;omega
 refine⟨i,rfl,J _ (zm d) ?_⟩;refine ygv l[i].R hf _ _ (λK=>?_) (λf=>?_)
 .refine⟨i,rfl,J _ (zm d) ?_⟩;refine zbu l[i].R hf _ _ (λz E=>?_);refine ya (zg (λc=>absurd (E.1 c) K) (λ_=>?_));refine Ns _ _ _ ?_;refine Qd ?_;exact⟨i+1,(show 3-(i+1)<3-i by omega),(show i+1<=3 by omega),⟨Y,Y,O⟩,O⟩
 refine⟨i,rfl,J _ (zm d) ?_⟩;refine zbu l[i].R hf _ _ (λz E=>?_);refine ya (zg (λ_=>?_) (λc=>absurd (E.2 f) (by rw[c];decide)));refine⟨i,rfl,J _ (zm d) ?_⟩;refine ygw l[i].R hf f _ _ ?_;refine Ns _ _ _ ?_;refine yq9 _ (by rw[Nk];omega) _ _ ?_;refine zg (λc=>absurd c φ) (λ_=>?_);refine⟨i,rfl,J _ (zm d) ?_⟩;refine ysx l[i].R hf Z _ _ (λv S n=>?_);have Q:=Nk (j2 l[i].R.G l[i].R.P) l[i].R.F;have T:=za4 (j2 l[i].R.G l[i].R.P) l[i].R.F;obtain⟨W,A,rfl,_⟩:=RowsQ.form (.inl n);generalize l[i].R=r at*;generalize X:ki (j2 r.G r.P) r.F=H at*
 refine AWp.loop (σ:=Nat×List Frm) ⟨λx=>[(0,.av (lst 6 K3 l)),(3,.av (int (i:Nat))),(4,.av (lst 1 Ac H)),(9,.bx 9 0),(10,.av (int (x.1:Nat)))],λ_=>[(9,Nl r (.s (.slice W (Γ r.F) A)))],
  λx S=>x.1<=Γ r.F/\RowsO 3 xc S (.s (.slice W (Γ r.F) A)) x.2/\Mq r.F H x.1 x.2,λx=>Γ r.F-x.1⟩ zb ?_ ?_
 .exact⟨(0,r.F),O,⟨Fae _,n,rfl,λj h3 h4=>⟨rfl,rfl,λhh=>nomatch hh⟩⟩,Qbt,⟨rfl,O⟩⟩
 clear n;rintro⟨k,m⟩ S ⟨hk,n,hm⟩;dsimp only at hk n hm⊢;refine bcd (λh5=>?_) (λh5=>?_)
 .have t:k<Γ r.F:=Z;have p:k<Γ m:=by rw[hm.1];exact t
  have y:k<Γ H:=Z;rcases n with⟨_,rfl⟩|⟨b,cap2,L,e,I,D,C,B⟩
  .exact absurd p (Fav _)
  simp only[AV.s.injEq,Value.slice.injEq]at e;obtain⟨rfl,_,rfl⟩:=e;have u:((rws xc m).flatten++L).length=Γ m*3+Γ L:=by rw[Fad,qu R1]
  refine Qc zb ya9 ?_;refine⟨k,rfl,J _ (zm y) ?_⟩;refine⟨k,rfl,t,?_⟩;refine⟨?_,O⟩;refine J _ rfl (ju rfl (jr (v:=u64 H[k]) rfl rfl rfl rfl ?_));refine yu (i:=ti12) (v:=u64 H[k]) (b:=b) (o:=0+k*3+2) (l:=(rws xc m).flatten++L) rfl rfl rfl I (by rw[u];omega) rfl ?_;refine⟨O,?_⟩;refine Qd ?_;refine⟨(k+1,m.set k {m[k]with hash:=H[k]}),(show Γ r.F-(k+1)<Γ r.F-k by omega),⟨t,?_,ypt hm p (Fac y)⟩,Qbt,⟨rfl,O⟩⟩;exact zbf p _ hm.1 D C B
 have:k=Γ r.F:=Z;subst this;obtain⟨f1,f2,f3⟩:=ze9 hm hf f;have e4:=ypu hm Q;have e5:vi (j2 r.G r.P) m=true:=by unfold vi;rw[f3,X,e4];exact decide_eq_true rfl
 refine zbc (r:={r with F:=m}) n f1 f2 _ ?_;dsimp only;rw[e5];refine Ns _ _ _ ?_;refine bcd (λh6=>?_) (λh6=>?_);rotate_left
 .refine Qd ?_;exact⟨i+1,(show 3-(i+1)<3-i by omega),(show i+1<=3 by omega),⟨Y,Y,O⟩,O⟩
 have g:Γ r.F-1<Γ m:=by rw[hm.1];omega
 have h:Γ r.F-1<Γ r.F:=Z;have w:(Γ r.F:Int)-1=((Γ r.F-1:Nat):Int):=Z;have u:∀L,((rws xc m).flatten++L).length=Γ m*3+Γ L:=λL=>by rw[Fad,qu R1]
 rcases n with⟨_,rfl⟩|⟨b,cap2,L,e,I,D,C,B⟩
 .exact absurd g (Fav _)
 simp only[AV.s.injEq,Value.slice.injEq]at e;obtain⟨rfl,_,rfl⟩:=e;refine Qd ?_;refine⟨Γ r.F-1,w,h,?_⟩;refine Qby ?_;refine J _ (yog g) ?_;refine⟨Γ r.F-1,w,h,?_⟩;refine yu (i:=ti12) (v:=u64 (IntKind.u64.wrap (m[Γ r.F-1].hash+1))) (b:=b) (o:=0+(Γ r.F-1)*3+2) (l:=(rws xc m).flatten++L) rfl rfl rfl I (by rw[u];omega) rfl ?_;have M:=yps hm g (IntKind.u64.wrap (m[Γ r.F-1].hash+1));obtain⟨g1,g2,g3⟩:=ze9 M hf f;have hx:m[Γ r.F-1].hash=H[Γ r.F-1]:=by have:=(hm.2 (Γ r.F-1) h g).2.2 h;rw[Fac Z]at this;exact(Option.some.inj this).symm
 have ε:=T _ (Faa (show Γ r.F-1<Γ H by omega));have e6:vi (j2 r.G r.P) (m.set (Γ r.F-1) {m[Γ r.F-1]with hash:=IntKind.u64.wrap (m[Γ r.F-1].hash+1)})=false:=by unfold vi;rw[g3,X];refine decide_eq_false λe=>?_;have U:=congrArg (λl=>l[Γ r.F-1]?) e;dsimp only at U;rw[Fac Z,Fau,Fac (by rw[Faf];exact g),Fbi]at U;have h8:=Option.some.inj U;dsimp only at h8;rw[hx,K9]at h8;omega
 refine zbc (r:={r with F:=m.set (Γ r.F-1) {m[Γ r.F-1]with hash:=IntKind.u64.wrap (m[Γ r.F-1].hash+1)}}) (zbf g _ hm.1 D C B) g1 g2 _ ?_;dsimp only;rw[e6];refine Ns _ _ _ ?_;refine Qd ?_;exact⟨i+1,(show 3-(i+1)<3-i by omega),(show i+1<=3 by omega),⟨Y,Y,O⟩,O⟩
def yig(l:List Ask29)(c:∀a∈l,a.sized)(b:Store)(R:Ja)(h:R (V.bool true) b):Jb 5 [lst 6 K3 l] b R:=
 Gn (yih l c) b R λr d=>d▸h
end Go.Proofs
