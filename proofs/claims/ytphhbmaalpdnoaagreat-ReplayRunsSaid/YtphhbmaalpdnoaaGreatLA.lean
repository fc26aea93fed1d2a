/- Lemmas of thronglaw29; no conditions. -/
import Derived.Test.YtphhbmaalpdnoaaGreatKZ
import Derived.Test.YtphhbmaalpdnoaaGreatKY
set_option linter.unusedSimpArgs false
set_option linter.unusedVariables false
set_option linter.defProp false
open List renaming length→Γ
open Option renaming some→Δ,none→Θ
namespace Go.Proofs
open Go Go.V Tryz
set_option maxRecDepth 20000
set_option maxHeartbeats 4000000
section
variable {st0 st:Store} {v:AV}
def Ph(st:Store)(R:Ja)(h:R (u64 14695981039346656037) st):Jb 52 [] st R:=by refine Qy 1 func52 ?_;exact⟨_,st,Tt,Store.Has.refl st,h⟩
def ziv(n:Int)(st0 st:Store)(v:AV)(rows:List (List AV))(d:App 1 st0 v rows st)(g:Γ rows<=100000000000000)(hn:n<=9223372036854775807)(R:Ja)
  (h:∀e st',App 1 st0 e (rows++rowsB (yl n)) st'->R e st'):Jb 95 [v,int n] st R:=by
 refine Qy 20 func95 ?_;refine AWp.loop (σ:=AV×Int×List (List AV)) ⟨λs=>[(0,.av s.1),(1,.av (int s.2.1))],λ_=>[],λs st'=>App 1 st0 s.1 s.2.2 st'/\s.2.2++rowsB (yl s.2.1)=rows++rowsB (yl n),λs=>s.2.1.toNat⟩ zb ?_ ?_
 .exact⟨(v,n,rows),O,⟨d,rfl⟩,⟨Y,Y,O⟩,O⟩
 .rintro⟨v,m,rs⟩ st ⟨d,c⟩;have f:Γ rs<=Γ rows+9:=by
   have b:=congrArg List.length c;simp only[Fad,zj]at b;have:=wz hn;omega
  refine zg (λb=>?_) (λb=>?_)
  .have b:128<=m:=by simpa using b
   refine⟨ψ,?_⟩;refine Af (ie:=ti5) (rows':=[[.s (.int .u8 (xf .or .u8 (IntKind.u8.wrap m) 128))]]) d ?_ ?_ ⟨?_,?_⟩ (λv2 st2 a=>?_)
   .rfl
   .rfl
   .simp[ti5];omega
   .simp;omega
   .refine⟨ψ,?_⟩;refine⟨(v2,m.fdiv (2^(min (7:Int).toNat IntKind.i64.bits)),_),?_,⟨a,?_⟩,⟨Y,Y,O⟩,O⟩
    .show(m.fdiv (2^(min (7:Int).toNat IntKind.i64.bits))).toNat<m.toNat;rw[zae];omega
    .rw[zae,zcs,<-c,zb9 b,Faq];rfl
  .have b:m<128:=by simpa using b
   refine⟨ψ,?_⟩;refine Af (ie:=ti5) (rows':=[[.s (.int .u8 (IntKind.u8.wrap m))]]) d ?_ ?_ ⟨?_,?_⟩ (λv2 st2 a=>?_)
   .rfl
   .rfl
   .simp[ti5];omega
   .simp;omega
   .refine⟨_,st2,Tt,Store.Has.refl st2,h _ _ ?_⟩;rw[<-c,zb8 b];rw[Rq]at a;exact a
def Ls(n:Int){bs:List UInt8}(f:App 1 st0 v (rowsB bs) st)(d:Γ bs<=100000000000000)(e:n<=9223372036854775807){R:Ja}
  (h:∀b a,App 1 st0 b (rowsB (bs++yl n)) a->R b a):Jb 95 [v,int n] st R:=
 ziv n st0 st v _ f (by rw[zj];exact d) e R λb a c=>h b a (by rw[Ni]at c;exact c)
def Bh{n:Nat}{G W:List Nat}{x:LV}{bs l:List UInt8}{K:Ja}(c:App 1 st0 v (rowsB bs) st)(hx:vw 1 x=Δ (rowsB l))(d:Γ bs+Γ l<=100000000000010)
  (h:∀b st',App 1 st0 b (rowsB (bs++l)) st'->K b st'):appendK Tryz.prog (cfg n G W) st 5 (.av v) x K:=by
 refine Af (ie:=ti5) c ?_ hx ⟨?_,?_⟩ (λv2 st2 a=>?_)
 .rfl
 .simp[zj,ti5];omega
 .simp[zj];omega
 .rw[Ni]at a;exact h _ _ a
end
end Go.Proofs
namespace Go.Proofs
open Go Go.V
set_option maxRecDepth 20000
set_option maxHeartbeats 4000000
theorem Ri(a:Int):jb [a]=yl a:=by simp[jb]
end Go.Proofs
namespace Go.Proofs
open Go Go.V Tryz
set_option maxRecDepth 20000
set_option maxHeartbeats 4000000
def yp4(s:Int)(l:List UInt8)(hl:Γ l<=1000000000000)(st:Store)(R:Ja)(h:R (u64 (vo s l)) st):Jb 51 [u64 s,yn l] st R:=by
 refine Qy 20 func51 ?_
 refine AWp.loop ⟨λi=>[(0,.av (u64 (vo s (l.take i)))),(7,.av (yn l)),(8,.av (int (Γ l))),(9,.av (int (i)))],λ_=>[],
  λi a=>i<=Γ l/\a=st,λi=>Γ l-i⟩ zb ?_ ?_
 .refine⟨0,O,⟨Fae _,rfl⟩,⟨Y,Y,?_,Y,O⟩,O⟩;rw[<-zj l];exact Y
 .rintro i a ⟨d,rfl⟩;refine zg (λh1=>?_) (λh1=>?_)
  .have b:i<Γ l:=by simpa using h1
   refine⟨i,rfl,J _ (zm b) ?_⟩;refine⟨⟨Z,Z⟩,?_⟩;refine⟨i+1,?_,⟨b,rfl⟩,⟨?_,Y,Y,Y,O⟩,O⟩
   .show Γ l-(i+1)<Γ l-i;omega
   .rw[zfi b];exact Y
  .have c:i=Γ l:=by
    have:¬i<Γ l:=θe;omega
   subst c;refine⟨_,a,Tt,Store.Has.refl a,?_⟩;rw[<-Fal (l:=l)]at h;exact h
def R4(s:Int){l:List UInt8}{v:AV}(b:AV.le v (yn l))(c:Γ l<=1000000000000){a:Store}{R:Ja}(h:R (u64 (vo s l)) a):Jb 51 [u64 s,v] a R:=
 ACalls.le (ys:=[u64 s,yn l]) ⟨Tt,b,O⟩ (yp4 s l c a R h)
def zfj(s:Int)(st:Store)(R:Ja)(h:R (yn (Bt s)) st):Jb 50 [u64 s] st R:=by
 refine Qy 14 func50 ?_
 refine AWp.loop (σ:=Nat×AV) ⟨λx=>[(0,.av (u64 (s/256^x.1))),(2,.av x.2),(3,.av (int (x.1)))],λ_=>[],
  λx st'=>x.1<=8/\App 1 st x.2 (rowsB ((Bt s).take x.1)) st',λx=>8-x.1⟩ zb ?_ ?_
 .refine⟨(0,_),O,⟨Fae _,App.start 1 st⟩,⟨?_,Y,Y,O⟩,O⟩;rw[Int.pow_zero,Int.ediv_one];exact Y
 .rintro⟨i,v⟩ st' ⟨f,d⟩;refine zg (λe=>?_) (λe=>?_)
  .have a:i<8:=by simp at e;omega
   refine⟨ψ,?_⟩;refine Af (ie:=ti5) (rows':=[[.s (.int .u8 (IntKind.u8.wrap (s/256^i)))]]) d ?_ ?_ ⟨?_,?_⟩ (λv2 st2 b=>?_)
   .rfl
   .rfl
   .simp[zj,ti5];omega
   .simp[zj];omega
   .refine⟨ψ,?_⟩;refine⟨⟨Z,Z⟩,?_⟩;refine⟨(i+1,v2),?_,⟨a,?_⟩,⟨?_,Y,Y,O⟩,O⟩
    .show 8-(i+1)<8-i;omega
    .show App 1 st v2 (rws u8C ((Bt s).take (i+1))) st2;rw[<-zga s a,<-Ni];rw[Rq]at b;exact b
    .rw[yau];exact Y
  .have c:i=8:=by simp at e;omega
   subst c;refine⟨_,st,AV.le_trans d.le ?_,d.has,h⟩;rw[Fbz (by exact Fai _)];exact Tt
def zz2(a:Store)(R:Ja)(h:R (u64 C0) a):Jb 52 [] a R:=Ph a R h
def zb1(l:List UInt8)(hl:Γ l<=1048576)(st:Store)(R:Ja)(h:R (.tup [yn (yl (Γ l)++l),int 0]) st):Jb 93 [yn l] st R:=by
 refine Qy 12 func93 ?_;refine bcd (λc=>?_) (λc=>?_)
 .rw[zj]at c;omega
 refine Ls (bs:=[]) _ (App.start 1 st) φ Z (λv e b=>?_);rw[zj]at b;have:=wz (n:=(Γ l)) Z;refine Bh b ξ χ (λf d a=>?_);exact Az h a.has (AV.le_tupL ⟨a.le,Tt,O⟩)
def ynk(n:Int)(hn:I62 n)(st:Store)(R:Ja)(h:R (.tup [yn (Ab n),int 0]) st):Jb 115 [int n] st R:=by
 refine Qy 21 func115 ?_;unfold I62 at hn;have fin:∀{v:AV} {a:Store} {l:List UInt8},App 1 st v (rowsB ([]++l)) a->l=Ab n->∃r c,AV.le (.tup [v,int 0]) r/\a.Has c/\R r c:=by rintro v a l b rfl;exact Az h b.has (AV.le_tupL ⟨b.le,Tt,O⟩)
 refine bcd (λd=>?_) (λd=>?_)
 .exact absurd d (Int.not_lt.2 (Int.le_of_lt hn.1))
 refine bcd (λd=>absurd d (Int.not_le.2 hn.2)) (λd=>?_);refine bcd (λf=>?_) (λf=>?_)
 .have i:yr ((-2)*n):=⟨Z,Z⟩
  have g:yr ((-2)*n-1):=⟨Z,Z⟩
  refine⟨i,g,?_⟩;refine Ls (bs:=[]) ((-2)*n-1) (App.start 1 st) φ Z (λv e b=>?_);exact fin b (by unfold Ab;rw[if_pos f])
 .refine⟨⟨Z,Z⟩,?_⟩;refine Ls (bs:=[]) _ (App.start 1 st) φ Z (λv e b=>?_);exact fin b (by unfold Ab;rw[if_neg f])
def zdz(g:Gnd)(f:zt g)(st:Store)(R:Ja)(h:R (yn (jv g)) st):Jb 94 [.agg (zq g)] st R:=by
 refine Qa (c:=cfg 21 [4] []) zb func94 ?_;obtain⟨k,j,t,_⟩:=f;have hm:=Nb k j;have l:=wz (n:=g.W) Z;have p:=wz (n:=g.H) Z;refine Qc zb ya4 ?_;refine⟨⟨ψ,λb i=>⟨Qe,?_⟩⟩,O⟩;refine⟨optR (optR (optR (J _ (Ka _ _ _) ⟨Qe,?_⟩))),O⟩;refine⟨Ls (bs:=[84,71]) _ (O2 i (by simp[rws])) φ Z (λv d a=>⟨Qe,?_⟩),O⟩;refine⟨Ls _ a χ Z (λv d a=>⟨Qe,?_⟩),O⟩;refine⟨Bh a ξ χ (λv d a=>⟨Qe,?_⟩),O⟩;refine Qbx ?_;refine Ph _ _ ?_;have e:([84,71]++yl g.W++yl g.H++g.T)=I9 g:=rfl;rw[e]at a;have o:(I9 g).length<=20000:=by simp only[<-e,Fad,Fbb,Fcj];omega
 refine R4 _ a.le Z ?_;refine zfj _ _ _ ?_;refine Bh a ξ (by rw[R8];omega) (λv d a=>?_);exact Az h a.has a.le
def Qbb{p:Prop}(h:p:=by simp only[Fad,Fbb,Fcj];omega):p:=h
def Qbc{p:Prop}(h:p:=by simp only[Fci,forall_eq];rw[zj];unfold I64;omega):p:=h
def Qbd{p:Prop}(h:p:=by rw[Fad];omega):p:=h
def Oa(l:List Int)(hl:Γ l<=64)(hn:∀n∈l,I64 n){p:Nat}{d st:Store}{v:AV}{e:List UInt8}(b:App 1 (d.sO p (.cells [v])) v (rowsB e) st)(o:Γ e<=90000000000000){R:Ja}
  (h:∀g a,App 1 (d.sO p (.cells [g])) g (rowsB (e++jb l)) a->R (.tup []) a):Jb 114 [yq l,.s (.pointer (Δ ⟨p,0,Θ⟩))] st R:=by
 refine Qy 15 func114 ?_;refine AWp.loop (σ:=Nat×AV) ⟨λs=>[(1,.av (.s (.pointer (Δ ⟨p,0,Θ⟩)))),(5,.av (yq l)),(6,.av (int (Γ l))),(7,.av (int s.1))],λ_=>[],λs a=>s.1<=Γ l/\App 1 (d.sO p (.cells [s.2])) s.2 (rowsB (e++jb (l.take s.1))) a,λs=>Γ l-s.1⟩ zb ?_ ?_
 .refine⟨(0,v),O,⟨Fae _,by simpa [jb]using b⟩,⟨Y,Y,?_,Y,O⟩,O⟩;rw[<-zj l];exact Y
 .rintro⟨i,v⟩ a ⟨t,b⟩;refine bcd (λk=>?_) (λk=>?_)
  .have c:i<Γ l:=Z;refine⟨i,rfl,J _ (zm c) ?_⟩;refine J _ b.read ?_;have hlen:=Hk (l:=l.take i) λn f=>(hn n (Fcf f)).2;rw[Fah]at hlen;refine Ls _ b χ (hn _ (Faa c)).2 (λv j b=>?_);refine xh b.cells b.one ξ b.read (Fai _) ?_;refine⟨⟨Z,Z⟩,?_⟩;refine⟨(i+1,v),?_,⟨c,?_⟩,Qbt,O⟩
   .show Γ l-(i+1)<Γ l-i;omega
   .rw[zc6 c,<-Faq];exact b.sO
  .obtain rfl:i=Γ l:=Z;rw[Fal]at b;exact ret (h _ _ b)
theorem R5{α:Type}(f:α->List UInt8){l:List α}{i:Nat}(h:i<Γ l):(l.take (i+1)).flatMap f=(l.take i).flatMap f++f l[i]:=by rw[Fab h,List.flatMap_append,List.flatMap_singleton]
def Ip{α:Type}(f:α->List UInt8)(n:Nat):∀l:List α,(∀x∈l,(f x).length<=n)->(l.flatMap f).length<=n*Γ l:=by
 intro l;induction l with
 |nil=>simp
 |cons a l b=>
  intro h;have e:=h a (Fbn ..);have d:=b λx c=>h x (Fba _ c);rw[List.flatMap_cons,Fad,Fbb,Nat.mul_add];omega
def xo{n:Int}(h:vg n):I64 n:=by unfold vg at h;unfold I64;omega
def Si{b:Bld}(h:pu b):(C7 b).length<=54:=by
 refine Fb7 (Hk λn a=>?_) (show 9*6<=54 by decide);obtain⟨i,g,f,e,d,c⟩:=h;simp at a;rcases a with rfl|rfl|rfl|rfl|rfl|rfl
 .exact i.2
 .exact g.2
 .exact f.2
 .exact e.2
 .exact d.2
 .exact c.2
def fh{u:Unt}(h:fg u):(vq u).length<=90:=by
 obtain⟨l,k,j,i,g,f,e,d,c,b⟩:=h;have a1:(jb [u.id,u.owner,u.kind]).length<=9*3:=Hk λn a=>by
  simp at a;rcases a with rfl|rfl|rfl
  .exact l.2
  .exact k.2
  .exact j.2
 have a2:(jb [u.goal+1,u.next+1,u.stuck,u.inn,u.state]).length<=9*5:=Hk λn a=>by
  simp at a;rcases a with rfl|rfl|rfl|rfl|rfl
  .exact f.2
  .exact e.2
  .exact d.2
  .exact c.2
  .exact b.2
 have a3:=N9 i;have a4:=N9 g;unfold vq;simp only[Fad];omega
def ynz(w:Wld)(hw:Ms w)(C:Store)(R:Ja)(h:∀v a,App 1 C v (rowsB (Du w)) a->R v a):Jb 49 [.agg (zo w)] C R:=by
 obtain⟨n1,n2,n3,hg,⟨hB,L⟩,hU,Q⟩:=hw;have hgl:=(Og hg).2;have hgp:(yl (jv w.G).length).length<=9:=wz Z;have l0:(jb [w.tick,w.players,w.next]).length<=9*3:=Hk λn S=>by
  simp at S;rcases S with rfl|rfl|rfl
  .exact n1.2
  .exact n2.2
  .exact n3.2
 refine Qb (c:=cfg 126 [3,15] []) zb func49 ?_;refine AWp.seq (AWp.of_vc zb ?_);refine AWp.seq (AWp.of_vc zb ?_);refine⟨ψ,λb hb=>?_⟩;refine optR (optR (optR (J _ (Ka _ _ _) ?_)));refine λp hp=>?_;have t:=(O2 (k:=1) (rows:=rowsB [84,87]) hb (by simp[rws])).boxed hp (x:=.cells [.lst 1 (rowsB [84,87]) (Δ b)]);have h0:=(O2 (k:=1) (rows:=rowsB [84,87]) hb (by simp[rws])).fresh hp;refine xh (i:=ti22) t.cells t.one ξ (zd _ _ _) (Fai _) ?_;rw[ym];have t:App 1 (C.sO p (.cells [.lst 1 (rowsB [84,87]) (Δ b)])) (.lst 1 (rowsB [84,87]) (Δ b)) (rowsB [84,87]) ((C.sT b (Δ 2)).sO p (.cells [.lst 1 (rowsB [84,87]) (Δ b)])):=t;show Cq _ _ _ _ _ _ ((C.sT b (Δ 2)).sO p (.cells [.lst 1 (rowsB [84,87]) (Δ b)]));generalize(AV.lst 1 (rowsB [84,87]) (Δ b))=v0 at t;generalize(C.sT b (Δ 2)).sO p (.cells [v0])=st0 at t;refine AWp.seq (AWp.of_vc zb ?_);refine AWp.seq (AWp.of_vc zb ?_);refine⟨ψ,?_⟩;refine Oa [w.tick,w.players,w.next] φ (by simp;exact⟨xo n1,xo n2,xo n3⟩) t φ (λv1 st1 E=>?_);refine AWp.seq (AWp.of_vc zb ?_);refine zdz w.G hg _ _ ?_;refine zb1 (jv w.G) Z _ _ ?_;refine AWp.seq (AWp.of_vc zb ?_);first|refine J _ (E.read) ?_|refine optR (J _ (E.read) ?_)|refine optR (optR (J _ (E.read) ?_))
 refine Bh E (l:=yl (jv w.G).length++jv w.G) ξ Qbb (λv2 st2 A=>?_);refine xh (i:=ti22) A.cells A.one ξ A.read (Fai _) ?_;have A:=A.sO (y:=.cells [v2]);refine AWp.seq (AWp.of_vc zb ?_);refine⟨ψ,?_⟩;have p1:(yl (Γ w.B:Int)).length<=9:=wz Z;refine Oa [((rws zk w.B).length:Int)] φ Qbc A Qbb (λv3 ε P=>?_);rw[zj,Ri]at P;generalize hpre:[84,87]++jb [w.tick,w.players,w.next]++(yl (jv w.G).length++jv w.G)++yl (Γ w.B:Int)=pre at P;have hprel:Γ pre<=17000:=by rw[<-hpre];simp only[Fad,Fbb,Fcj];omega
 refine AWp.meetA (σ:=AV) ⟨λv=>[(1,.bx 1 0),(3,.av (ptr p)),(4,.av (.clos 114 [ptr p]))],λ_=>[(1,zo w)],λv a=>App 1 (C.sO p (.cells [v])) v (rowsB (pre++w.B.flatMap C7)) a⟩ ?_ ?_
 .refine AWp.seq (AWp.of_vc zb ?_);refine AWp.of_vc zb ?_
  refine AWp.loop (σ:=Nat×AV) ⟨λx=>[(1,.bx 1 0),(3,.av (ptr p)),(4,.av (.clos 114 [ptr p])),(44,.av (lst 6 zk w.B)),(45,.av (int (Γ w.B:Nat))),(46,.av (int (x.1:Nat)))],λ_=>[(1,zo w)],
   λx a=>x.1<=Γ w.B/\App 1 (C.sO p (.cells [x.2])) x.2 (rowsB (pre++(w.B.take x.1).flatMap C7)) a,λx=>Γ w.B-x.1⟩ zb ?_ ?_
  .refine⟨(0,v3),O,⟨Fae _,by simpa using P⟩,⟨Y,Y,Y,Y,?_,Y,O⟩,⟨rfl,O⟩⟩;rw[<-zj (f:=zk) w.B];exact Y
  rintro⟨i,v⟩ a ⟨hi,H⟩;dsimp only at hi H⊢;refine bcd (λh1=>?_) (λh1=>?_);rotate_left
  .have:i=Γ w.B:=Z;subst this;rw[Fal]at H;exact⟨v,H,Qbt,⟨rfl,O⟩⟩
  have g:i<Γ w.B:=Z;obtain⟨b1,b2,b3,b4,b5,b6⟩:=L _ (Faa g);have D:=Ip C7 54 (w.B.take i) λx I=>Si (L x (Fcf I));rw[Fah]at D;refine⟨i,rfl,J _ (zm g) ?_⟩;refine⟨ψ,?_⟩;refine Oa [w.B[i].id,w.B[i].owner,w.B[i].x,w.B[i].y,w.B[i].w,w.B[i].h] φ (by simp;exact⟨xo b1,xo b2,xo b3,xo b4,xo b5,xo b6⟩) H Qbd (λv4 υ ι=>?_);refine Qd ?_;refine⟨(i+1,v4),?_,⟨ζ,?_⟩,Qbt,⟨rfl,O⟩⟩
  .show Γ w.B-(i+1)<Γ w.B-i;omega
  .dsimp only;rw[R5 C7 g,<-Faq];exact ι
 rintro v5 ς T;dsimp only at T⊢;have D:=Ip C7 54 w.B λx I=>Si (L x I);have p2:(yl (Γ w.U:Int)).length<=9:=wz Z;refine AWp.seq (AWp.of_vc zb ?_);refine⟨ψ,?_⟩;refine Oa [((rws zf w.U).length:Int)] φ Qbc T Qbd (λv6 π M=>?_);rw[zj,Ri]at M;generalize hpre2:pre++w.B.flatMap C7++yl (Γ w.U:Int)=pre2 at M;have hpre2l:Γ pre2<=40000:=by rw[<-hpre2];simp only[Fad];omega
 refine AWp.meetA (σ:=AV) ⟨λv=>[(3,.av (ptr p))],λ_=>[],λv a=>App 1 (C.sO p (.cells [v])) v (rowsB (pre2++w.U.flatMap vq)) a⟩ ?_ ?_
 .refine AWp.seq (AWp.of_vc zb ?_);refine AWp.of_vc zb ?_
  refine AWp.loop (σ:=Nat×AV) ⟨λx=>[(1,.bx 1 0),(3,.av (ptr p)),(4,.av (.clos 114 [ptr p])),(73,.av (lst 10 zf w.U)),(74,.av (int (Γ w.U:Nat))),(75,.av (int (x.1:Nat)))],λ_=>[(1,zo w)],
   λx a=>x.1<=Γ w.U/\App 1 (C.sO p (.cells [x.2])) x.2 (rowsB (pre2++(w.U.take x.1).flatMap vq)) a,λx=>Γ w.U-x.1⟩ zb ?_ ?_
  .refine⟨(0,v6),O,⟨Fae _,by simpa using M⟩,⟨Y,Y,Y,Y,?_,Y,O⟩,⟨rfl,O⟩⟩;rw[<-zj (f:=zf) w.U];exact Y
  rintro⟨i,v⟩ a ⟨hi,H⟩;dsimp only at hi H⊢;refine bcd (λh1=>?_) (λh1=>?_);rotate_left
  .have:i=Γ w.U:=Z;subst this;rw[Fal]at H;exact⟨v,H,⟨Y,O⟩,O⟩
  have g:i<Γ w.U:=Z;obtain⟨u1,u2,u3,u4,u5,u6,u7,u8,u9,W⟩:=Q _ (Faa g);have D:=Ip vq 90 (w.U.take i) λx I=>fh (Q x (Fcf I));rw[Fah]at D;refine⟨i,rfl,J _ (zm g) ?_⟩;refine⟨ψ,?_⟩;have q1:(jb [w.U[i].id,w.U[i].owner,w.U[i].kind]).length<=9*3:=Hk λn S=>by
   simp at S;rcases S with rfl|rfl|rfl
   .exact u1.2
   .exact u2.2
   .exact u3.2
  refine Oa [w.U[i].id,w.U[i].owner,w.U[i].kind] φ (by simp;exact⟨xo u1,xo u2,xo u3⟩) H Qbd (λv7 ο η=>?_);refine⟨ψ,?_⟩;obtain⟨u,K,hpl,hall⟩:∃u:List Int,[w.U[i].pos.1,w.U[i].pos.2]=u/\Γ u=2/\∀x∈u,I62 x:=⟨_,rfl,rfl,by simp;exact⟨u4,u5⟩⟩
  refine AWp.loop (σ:=Nat×AV) ⟨λx=>[(1,.bx 1 0),(3,.av (ptr p)),(4,.av (.clos 114 [ptr p])),(73,.av (lst 10 zf w.U)),(74,.av (int (Γ w.U:Nat))),(75,.av (int (i:Nat))),(10,.bx 10 0),(94,.av (lst 1 zx u)),(95,.av (int 2)),(96,.av (int (x.1:Nat)))],λ_=>[(1,zo w),(10,zf w.U[i])],
   λx a=>x.1<=2/\App 1 (C.sO p (.cells [x.2])) x.2 (rowsB (pre2++(w.U.take i).flatMap vq++jb [w.U[i].id,w.U[i].owner,w.U[i].kind]++(u.take x.1).flatMap Ab)) a,λx=>2-x.1⟩ zb ?_ ?_
  .refine⟨(0,v7),O,⟨Fae _,by simpa using η⟩,⟨Y,Y,Y,Y,Y,Y,Y,?_,Y,Y,O⟩,⟨rfl,rfl,O⟩⟩;rw[<-K];exact Y
  rintro⟨j,v8⟩ st8 ⟨hj,o⟩;dsimp only at hj o⊢;have hifl:=Ip Ab 9 (u.take j) λx I=>by obtain⟨m,hm,rfl⟩:=Faj (Fcf I);exact N9 (hall _ (Faa hm))
  rw[Fah]at hifl;refine bcd (λh2=>?_) (λh2=>?_)
  .have hj2:j<2:=Z;refine⟨j,rfl,J _ (zm (show j<Γ u by omega)) ?_⟩;refine ynk u[j] (hall _ (Faa _)) _ _ ?_;first|refine J _ (o.read) ?_|refine optR (J _ (o.read) ?_)|refine optR (optR (J _ (o.read) ?_))
   have hz:=N9 (hall u[j] (Faa _));refine Bh o (l:=Ab u[j]) ξ (by simp only[Fad];omega) (λV X z=>?_);refine xh (i:=ti22) z.cells z.one ξ z.read (Fai _) ?_;refine Qd ?_;refine⟨(j+1,V),?_,⟨ζ,?_⟩,Qbt,⟨rfl,rfl,O⟩⟩
   .show 2-(j+1)<2-j;omega
   .dsimp only;rw[R5 Ab (show j<Γ u by omega),<-Faq];exact z.sO
  .have:j=2:=Z;subst this;have e2:u.take 2=u:=Fbz Z;rw[e2,<-K]at o;rw[e2,<-K]at hifl;refine ze (by unfold vg at u6;omega) ?_;refine ze (by unfold vg at u7;omega) ?_;refine⟨ψ,?_⟩;refine Oa [w.U[i].goal+1,w.U[i].next+1,w.U[i].stuck,w.U[i].inn,w.U[i].state] φ (by simp;exact⟨xo u6,xo u7,xo u8,xo u9,xo W⟩) o (by simp only[Fad];omega) (λV X z=>?_);refine Qd ?_;refine⟨(i+1,V),?_,⟨ζ,?_⟩,Qbt,⟨rfl,O⟩⟩
   .show Γ w.U-(i+1)<Γ w.U-i;omega
   .dsimp only;rw[R5 vq g];have e:pre2++(w.U.take i).flatMap vq++jb [w.U[i].id,w.U[i].owner,w.U[i].kind]++[w.U[i].pos.1,w.U[i].pos.2].flatMap Ab++jb [w.U[i].goal+1,w.U[i].next+1,w.U[i].stuck,w.U[i].inn,w.U[i].state]=pre2++((w.U.take i).flatMap vq++vq w.U[i]):=by
     unfold vq;simp
    rw[<-e];exact z
 rintro τ ν d;refine AWp.of_vc zb ?_;first|refine J _ (d.read) ?_|refine optR (J _ (d.read) ?_)|refine optR (optR (J _ (d.read) ?_))
 have e:pre2++w.U.flatMap vq=Du w:=by rw[<-hpre2,<-hpre];unfold Du;simp
 rw[e]at d;obtain⟨ε,h3,h4⟩:=d.dropObj h0;exact Az (h _ _ h3) h4 (Tt)
section
variable {st st0:Store} {v:AV}
def Qbe{p:Prop}(h:p:=by simp;omega):p:=h
def Qbf{p:Prop}(h:p:=by unfold I64;omega):p:=h
def yle(n:Int)(hn:I64 n){R:Ja}(h:∀v a,App 1 st v (rowsB (yl n)) a->R v a):Jb 338 [int n] st R:=by
 refine Qy 20 func338 ?_;refine AWp.loop (σ:=AV×Int×List UInt8) ⟨λs=>[(3,.av s.1),(0,.av (int s.2.1))],λ_=>[],λs a=>App 1 st s.1 (rowsB s.2.2) a/\s.2.2++yl s.2.1=yl n/\I64 s.2.1,λs=>s.2.1.toNat⟩ zb ?_ ?_
 .exact⟨(_,n,[]),O,⟨App.start 1 st,rfl,hn⟩,⟨Y,Y,O⟩,O⟩
 .rintro⟨v,m,f⟩ st1 ⟨c,b,hm⟩;dsimp only at c b hm⊢;unfold I64 at hm;have hlen:Γ f<=9:=by
   have d:=congrArg List.length b;simp only[Fad]at d;have:=wz hn.2;omega
  refine bcd (λd=>?_) (λd=>?_)
  .refine⟨ψ,ψ,?_⟩;refine Bh c (l:=[Br m ||| 128]) ?_ Qbe (λv e c=>?_)
   .show Δ [[AV.s (.int .u8 (xf .or .u8 (IntKind.u8.wrap (m.tmod 128)) 128))]]=_;rw[zcs,yms _ Z];rfl
   refine⟨ψ,⟨?_,?_⟩,?_⟩
   .rw[Fat Z];omega
   .rw[Fat Z];omega
   refine⟨(v,m/128,f++[Br m ||| 128]),?_,⟨c,?_,?_⟩,⟨Y,?_,O⟩,O⟩
   .show(m/128).toNat<m.toNat;omega
   .simp only;rw[<-b,zb9 d,Faq];rfl
   .show I64 (m/128);unfold I64;omega
   .show LV.le (.av (int (m.tdiv 128))) (.av (int (m/128)));rw[Fat Z];exact Y
  .refine⟨ψ,?_⟩;refine Bh c (l:=[Br m]) ?_ Qbe (λv e c=>?_)
   .show Δ [[AV.s (.int .u8 (IntKind.u8.wrap m))]]=_;rw[Rq];rfl
   rw[<-zb8 Z,b]at c;exact ret (h _ _ c)
def Rj(n:Int)(c:I64 n){R:Ja}(h:R (yn (yl n)) st):Jb 338 [int n] st R:=
 ACalls.lessen (yle n c λv b a=>⟨_,_,a.le,a.has,h⟩)
def zeh(n:Int)(hn:I62 n){R:Ja}(h:R (yn (Ab n)) st):Jb 239 [int n] st R:=by
 refine Qy 12 func239 ?_;unfold I62 at hn;unfold Ab at h;refine bcd (λa=>?_) (λa=>?_)
 .rw[if_pos a]at h;have c:yr ((-2:Int)*n):=⟨Z,Z⟩
  have b:yr ((-2:Int)*n-1):=⟨Z,Z⟩
  refine⟨c,b,?_⟩;exact Rj ((-2:Int)*n-1) Qbf (ret h)
 .rw[if_neg a]at h;refine⟨⟨Z,Z⟩,?_⟩;exact Rj (2*n) Qbf (ret h)
def yrh(s:Int){R:Ja}(h:R (yn (Bt s)) st):Jb 405 [u64 s] st R:=by
 refine Qy 18 func405 ?_
 refine AWp.loop (σ:=Nat×AV) ⟨λx=>[(0,.av (u64 s)),(3,.av x.2),(4,.av (int (x.1:Nat)))],λ_=>[],
  λx c=>x.1<=8/\App 1 st x.2 (rowsB ((Bt s).take x.1)) c,λx=>8-x.1⟩ zb ?_ ?_
 .exact⟨(0,_),O,⟨Fae _,App.start 1 st⟩,⟨Y,Y,Y,O⟩,O⟩
 .rintro⟨i,v⟩ c ⟨f,a⟩;simp only at f a;refine bcd (λg=>?_) (λg=>?_)
  .have b:i<8:=Z;refine⟨⟨Z,Z⟩,⟨Z,?_⟩⟩;refine⟨ψ,?_⟩;refine Bh a (l:=[Br (s/256^i)]) ?_ Qbe (λv e a=>?_)
   .show Δ [[AV.s (.int .u8 (IntKind.u8.wrap (s.fdiv (2^(min ((8:Int)*(i:Int)).toNat IntKind.u64.bits)))))]]=_;rw[yat s i b,Rq];rfl
   refine⟨⟨Z,Z⟩,?_⟩;refine⟨(i+1,v),?_,⟨b,?_⟩,Qbt,O⟩
   .show 8-(i+1)<8-i;omega
   .rw[zga s b]at a;exact a
  .have d:i=8:=Z;subst d;rw[Fbz (by rw[R8];exact Fai _)]at a;exact Az h a.has a.le
def ue(s:Int){l:List UInt8}(e:AV.le v (yn l))(hl:Γ l<=1000000000000){R:Ja}(h:R (u64 (vo s l)) st):Jb 152 [u64 s,v] st R:=by
 refine ACalls.le (ys:=[u64 s,yn l]) ⟨Tt,e,O⟩ ?_;refine Qy 21 func152 ?_
 refine AWp.loop (σ:=Nat) ⟨λi=>[(0,.av (u64 (vo s (l.take i)))),(1,.av (yn l)),(5,.av (int (i:Nat)))],λ_=>[],
  λi b=>i<=Γ l/\b=st,λi=>Γ l-i⟩ zb ?_ ?_
 .exact⟨0,O,⟨Fae _,rfl⟩,Qbt,O⟩
 .rintro i b ⟨f,rfl⟩;refine zg (λd=>?_) (λd=>?_)
  .have a:i<Γ l:=ql d;refine⟨i,rfl,J _ (zm a) ?_⟩;refine⟨⟨Z,Z⟩,?_⟩;refine⟨i+1,?_,⟨a,rfl⟩,⟨?_,Y,Y,O⟩,O⟩
   .show Γ l-(i+1)<Γ l-i;omega
   .rw[zfi a];exact Y
  .have c:i=Γ l:=qr d f;subst c;exact ret (by rw[Fal];exact h)
def ymr(g:Gnd)(f:zt g){R:Ja}(h:R (yn (jv g)) st):Jb 339 [.agg (zq g)] st R:=by refine Qa (c:=cfg 23 [4] []) zb func339 ?_;have p:=(Og f).1;obtain⟨k,j,w,_⟩:=f;have t:=Nb k j;have o:=wz (n:=g.W) Z;have u:=wz (n:=g.H) Z;refine⟨ψ,λb i=>?_⟩;refine Rj _ Qbf ?_;refine Bh (bs:=[84,71]) (O2 i φ) (l:=yl g.W) ξ Qbe (λv d a=>?_);refine Rj _ Qbf ?_;refine Bh a (l:=yl g.H) ξ Qbe (λv d a=>?_);refine Bh a (l:=g.T) ξ Qbe (λv d a=>?_);have e:([84,71]++yl g.W++yl g.H++g.T)=I9 g:=rfl;rw[e]at a;refine ue _ a.le Z ?_;refine yrh _ ?_;refine Bh a (l:=Bt (vo C0 (I9 g))) ξ (by rw[R8];omega) (λv d a=>?_);exact Az h a.has a.le
def Lt(l:List Int)(hn:∀n∈l,I64 n){bs:List UInt8}(c:App 1 st0 v (rowsB bs) st)(p:Γ bs+9*Γ l<=90000000000000){R:Ja}
  (h:∀j a,App 1 st0 j (rowsB (bs++jb l)) a->R j a):Jb 237 [v,yq l] st R:=by
 refine Qy 20 func237 ?_;refine AWp.loop (σ:=Nat×AV) ⟨λs=>[(0,.av s.2),(1,.av (yq l)),(5,.av (int s.1))],λ_=>[],λs a=>s.1<=Γ l/\App 1 st0 s.2 (rowsB (bs++jb (l.take s.1))) a,λs=>Γ l-s.1⟩ zb ?_ ?_
 .exact⟨(0,v),O,⟨Fae _,by simpa [jb]using c⟩,Qbt,O⟩
 .rintro⟨i,v⟩ a ⟨k,c⟩;simp only at k c;refine zg (λg=>?_) (λg=>?_)
  .have b:i<Γ l:=ql g;refine⟨i,rfl,J _ (zm b) ?_⟩;have hlen:=Hk (l:=l.take i) λn e=>(hn n (Fcf e)).2;rw[Fah]at hlen;have d:=hn _ (Faa b);have:=wz d.2;refine Rj _ d ?_;refine Bh c (l:=yl l[i]) ξ Qbe (λv o c=>?_);refine⟨⟨Z,Z⟩,?_⟩;refine⟨(i+1,v),?_,⟨b,?_⟩,Qbt,O⟩
   .show Γ l-(i+1)<Γ l-i;omega
   .rw[zc6 b,<-Faq];exact c
  .have f:i=Γ l:=qr g k;subst f;rw[Fal]at c;exact ret (h _ _ c)
def yjb(g:Gnd)(f:zt g){d:List UInt8}(a:App 1 st0 v (rowsB d) st)(j:Γ d<=80000000000000){R:Ja}
  (h:∀e b,App 1 st0 e (rowsB (d++(yl (jv g).length++jv g))) b->R e b):Jb 238 [v,.agg (zq g)] st R:=by
 refine Qy 15 func238 ?_;have i:=(Og f).2;refine ymr g f ?_;refine⟨ψ,?_⟩;refine Lt [((rowsB (jv g)).length:Int)] ?_ a Qbe (λv c a=>?_)
 .rw[zj];simp;unfold I64;omega
 rw[zj,Ri]at a;have k:=wz (n:=((jv g).length:Int)) Z;refine Bh a (l:=jv g) ξ Qbe (λv c a=>?_);rw[Faq]at a;exact ret (h _ _ a)
end
def Qbg{p:Prop}(h:p:=by rw[Fad];simp only[Fbb,Fcj];omega):p:=h
def Qbh{p:Prop}(h:p:=by simp only[Fad,Fbb,Fcj];omega):p:=h
def Qbi{p:Prop}(h:p:=by simp only[Fci,forall_eq];rw[zj];unfold I64;omega):p:=h
def rn{w:Wld}(h:Ms w):(Du w).length<=500000:=by
 obtain⟨g,f,e,k,⟨u,c⟩,t,b⟩:=h;have j:=(Og k).2;have i:(yl (jv w.G).length).length<=9:=wz Z;have p:(jb [w.tick,w.players,w.next]).length<=9*3:=Hk λn d=>by
  simp at d;rcases d with rfl|rfl|rfl
  .exact g.2
  .exact f.2
  .exact e.2
 have o:(yl (Γ w.B)).length<=9:=wz Z;have l:(yl (Γ w.U)).length<=9:=wz Z;have y:=Ip C7 54 w.B λx a=>Si (c x a);have v:=Ip vq 90 w.U λx a=>fh (b x a);unfold Du;simp only[Fad,Fbb,Fcj];omega
def ynd(w:Wld)(a:Ms w)(st:Store)(R:Ja)(h:R (u64 (vo C0 (Du w))) st):Jb 80 [.agg (zo w)] st R:=by have hl:=rn a;refine Qy 7 func80 ?_;refine Qc zb ya6 ?_;refine⟨zz2 _ _ ⟨Qe,?_⟩,O⟩;refine⟨ynz w a _ _ (λv c b=>⟨O,?_⟩),O⟩;refine⟨R4 _ b.le Z ⟨O,?_⟩,O⟩;refine Qbx ?_;exact Az h b.has (Tt)
def yi8(w:Wld)(hw:Ms w)(u:Store)(R:Ja)(h:∀v a,App 1 u v (rowsB (Du w)) a->R v a):Jb 153 [.agg (zo w)] u R:=by
 obtain⟨n1,n2,n3,hg,⟨hB,k⟩,hU,D⟩:=hw;have hgl:=(Og hg).2;have hgp:(yl (jv w.G).length).length<=9:=wz Z;have l0:(jb [w.tick,w.players,w.next]).length<=9*3:=Hk λn E=>by
  simp at E;rcases E with rfl|rfl|rfl
  .exact n1.2
  .exact n2.2
  .exact n3.2
 refine Qb (c:=cfg 109 [8] []) zb func153 ?_;refine AWp.seq (AWp.of_vc zb ?_);refine AWp.seq (AWp.of_vc zb ?_);refine⟨ψ,λb hb=>?_⟩;refine⟨ψ,?_⟩;refine Lt [w.tick,w.players,w.next] (by simp;exact⟨xo n1,xo n2,xo n3⟩) (bs:=[84,87]) (O2 hb (by simp[rws])) φ (λv1 υ T=>?_);refine AWp.seq (AWp.of_vc zb ?_);refine yjb w.G hg T Qbh (λv2 ς S=>?_);refine AWp.seq (AWp.of_vc zb ?_);refine⟨ψ,?_⟩;have p1:(yl (Γ w.B:Int)).length<=9:=wz Z;refine Lt [((rws zk w.B).length:Int)] Qbi S Qbh (λv3 π p=>?_);rw[zj,Ri]at p;generalize hpre:[84,87]++jb [w.tick,w.players,w.next]++(yl (jv w.G).length++jv w.G)++yl (Γ w.B:Int)=pre at p;have hprel:Γ pre<=17000:=by rw[<-hpre];simp only[Fad,Fbb,Fcj];omega
 refine AWp.meetA (σ:=AV) ⟨λv=>[(1,.bx 1 0),(3,.av v)],λ_=>[(1,zo w)],λv a=>App 1 u v (rowsB (pre++w.B.flatMap C7)) a⟩ ?_ ?_
 .refine AWp.seq (AWp.of_vc zb ?_);refine AWp.of_vc zb ?_
  refine AWp.loop (σ:=Nat×AV) ⟨λx=>[(1,.bx 1 0),(3,.av x.2),(4,.av (int (x.1:Nat)))],λ_=>[(1,zo w)],
   λx a=>x.1<=Γ w.B/\App 1 u x.2 (rowsB (pre++(w.B.take x.1).flatMap C7)) a,λx=>Γ w.B-x.1⟩ zb ?_ ?_
  .exact⟨(0,v3),O,⟨Fae _,by simpa using p⟩,Qbt,⟨rfl,O⟩⟩
  rintro⟨i,v⟩ a ⟨H,j⟩;dsimp only at H j⊢;refine zg (λt=>?_) (λt=>?_);rotate_left
  .have:i=Γ w.B:=qr t H;subst this;rw[Fal]at j;exact⟨v,j,⟨Y,Y,O⟩,⟨rfl,O⟩⟩
  have d:i<Γ w.B:=ql t;obtain⟨b1,b2,b3,b4,b5,b6⟩:=k _ (Faa d);have g:=Ip C7 54 (w.B.take i) λx C=>Si (k x (Fcf C));rw[Fah]at g;refine⟨i,rfl,J _ (zm d) ?_⟩;refine⟨ψ,?_⟩;refine Lt [w.B[i].id,w.B[i].owner,w.B[i].x,w.B[i].y,w.B[i].w,w.B[i].h] (by simp;exact⟨xo b1,xo b2,xo b3,xo b4,xo b5,xo b6⟩) j Qbg (λv4 ο Q=>?_);refine Qd ?_;refine⟨(i+1,v4),?_,⟨ζ,?_⟩,Qbt,⟨rfl,O⟩⟩
  .show Γ w.B-(i+1)<Γ w.B-i;omega
  .dsimp only;rw[R5 C7 d,<-Faq];exact Q
 rintro v5 τ I;dsimp only at I⊢;have g:=Ip C7 54 w.B λx C=>Si (k x C);have p2:(yl (Γ w.U:Int)).length<=9:=wz Z;refine AWp.seq (AWp.of_vc zb ?_);refine⟨ψ,?_⟩;refine Lt [((rws zf w.U).length:Int)] Qbi I Qbg (λv6 ν o=>?_);rw[zj,Ri]at o;generalize hpre2:pre++w.B.flatMap C7++yl (Γ w.U:Int)=pre2 at o;have hpre2l:Γ pre2<=40000:=by rw[<-hpre2];simp only[Fad];omega
 refine AWp.meetA (σ:=AV) ⟨λv=>[(3,.av v)],λ_=>[],λv a=>App 1 u v (rowsB (pre2++w.U.flatMap vq)) a⟩ ?_ ?_
 .refine AWp.seq (AWp.of_vc zb ?_);refine AWp.of_vc zb ?_
  refine AWp.loop (σ:=Nat×AV) ⟨λx=>[(1,.bx 1 0),(3,.av x.2),(6,.av (int (x.1:Nat)))],λ_=>[(1,zo w)],
   λx a=>x.1<=Γ w.U/\App 1 u x.2 (rowsB (pre2++(w.U.take x.1).flatMap vq)) a,λx=>Γ w.U-x.1⟩ zb ?_ ?_
  .exact⟨(0,v6),O,⟨Fae _,by simpa using o⟩,Qbt,⟨rfl,O⟩⟩
  rintro⟨i,v⟩ a ⟨H,j⟩;dsimp only at H j⊢;refine zg (λt=>?_) (λt=>?_);rotate_left
  .have:i=Γ w.U:=qr t H;subst this;rw[Fal]at j;exact⟨v,j,⟨Y,O⟩,O⟩
  have d:i<Γ w.U:=ql t;obtain⟨u1,u2,u3,u4,X,W,V,u8,u9,K⟩:=D _ (Faa d);have g:=Ip vq 90 (w.U.take i) λx C=>fh (D x (Fcf C));rw[Fah]at g;have q1:(jb [w.U[i].id,w.U[i].owner,w.U[i].kind]).length<=9*3:=Hk λn E=>by
   simp at E;rcases E with rfl|rfl|rfl
   .exact u1.2
   .exact u2.2
   .exact u3.2
  have z1:=N9 u4;have z2:=N9 X;refine⟨i,rfl,J _ (zm d) ?_⟩;refine⟨ψ,?_⟩;refine Lt [w.U[i].id,w.U[i].owner,w.U[i].kind] (by simp;exact⟨xo u1,xo u2,xo u3⟩) j Qbg (λv7 ι P=>?_);refine zeh w.U[i].pos.1 u4 ?_;refine Bh P (l:=Ab w.U[i].pos.1) ξ (by simp only[Fad];omega) (λv8 η M=>?_);refine zeh w.U[i].pos.2 X ?_;refine Bh M (l:=Ab w.U[i].pos.2) ξ (by simp only[Fad];omega) (λv9 ε L=>?_);refine ze (by unfold vg at W;omega) ?_;refine ze (by unfold vg at V;omega) ?_;refine⟨ψ,?_⟩;refine Lt [w.U[i].goal+1,w.U[i].next+1,w.U[i].stuck,w.U[i].inn,w.U[i].state] (by simp;exact⟨xo W,xo V,xo u8,xo u9,xo K⟩) L Qbh (λz A f=>?_);refine Qd ?_;refine⟨(i+1,z),?_,⟨ζ,?_⟩,Qbt,⟨rfl,O⟩⟩
  .show Γ w.U-(i+1)<Γ w.U-i;omega
  .dsimp only;rw[R5 vq d];have e:pre2++(w.U.take i).flatMap vq++jb [w.U[i].id,w.U[i].owner,w.U[i].kind]++Ab w.U[i].pos.1++Ab w.U[i].pos.2++jb [w.U[i].goal+1,w.U[i].next+1,w.U[i].stuck,w.U[i].inn,w.U[i].state]=pre2++((w.U.take i).flatMap vq++vq w.U[i]):=by
    unfold vq;simp
   rw[<-e];exact f
 rintro z A f;refine AWp.of_vc zb ?_;have e:pre2++w.U.flatMap vq=Du w:=by rw[<-hpre2,<-hpre];unfold Du;simp
 rw[e]at f;exact ret (h _ _ f)
def yh9(w:Wld)(a:Ms w)(st:Store)(R:Ja)(h:R (u64 (vo C0 (Du w))) st):Jb 85 [.agg (zo w)] st R:=by have hl:=rn a;refine Qy 6 func85 ?_;refine yi8 w a _ _ (λv c b=>?_);refine ue _ b.le Z ?_;exact Az h b.has (Tt)
end Go.Proofs
namespace Go.Proofs
open Go Go.V
set_option maxRecDepth 20000
set_option maxHeartbeats 4000000
def yq2{g:Nat}{room:Int}{k:Nat}{w:Wld}{S:Store}(f:EngR g room k w S)(p:playW w)(l:List Cmd)(u:l=[]\/DoC)(z:∀c∈l,c.fits)(d:Γ l<=512)(y:k<=100000000000000000)(R:Ja)
  (h:∀o a,o<=k+4096->EngR g room o (ja w l) a->R (.tup [lst 1 zx (Lw w l),int (Lx w)]) a):Jb 15 [ptr g,lst 10 yg l] S R:=by
 by_cases e:w.tick=1099511627776
 .obtain⟨n,j,i⟩:=ln e l;have:=h k S Z (n.symm▸f);rw[j,i]at this;refine(yq1 f e l (λr a=>r=.tup [nil,int 10]/\a=S) ⟨rfl,rfl⟩).post (Store.Le.refl _) ?_;rintro r a ⟨rfl,rfl⟩;refine⟨_,_,λW T v t=>?_,Store.Le.refl _,this⟩;exact t.tup2 (λx b=>AV.le_nil 1 _ _ _ b) λx b=>b
 .obtain⟨n,j,i⟩:=lp e l;rw[n,j,i]at h;have B:=p.1.1.1.1.1.2;exact yq0 f p l u z d Z y R λa A=>h (k+4096) a (Fai _) A
def Gd(w:Wld):Int:=vo C0 (Du w)
def lh{w:Wld}(h:playW w)(l:List Cmd):playW (ja w l):=by
 by_cases e:w.tick=1099511627776
 .rw[(ln e l).1];exact h
 .rw[(lp e l).1];have:=h.1.1.1.1.1.2;exact ykm h Z l
end Go.Proofs
namespace Go.Proofs
open Go Go.V Tryz
set_option maxRecDepth 20000
set_option maxHeartbeats 4000000
def yuf(a b:Cmd):orZ [vf a.P b.P,vf a.S b.S]>0↔F5 b a:=by
 unfold orZ F5;by_cases d:a.P<b.P
 .have:vf a.P b.P=-1:=by unfold vf;rw[if_pos d]
  rw[this];simp;omega
 .by_cases f:a.P>b.P
  .have:vf a.P b.P=1:=by unfold vf;rw[if_neg d,if_pos f]
   rw[this];simp;omega
  .have:vf a.P b.P=0:=by unfold vf;rw[if_neg d,if_neg f]
   rw[this];by_cases c:a.S<b.S
   .have:vf a.S b.S=-1:=by unfold vf;rw[if_pos c]
    rw[this];simp;omega
   .by_cases e:a.S>b.S
    .have:vf a.S b.S=1:=by unfold vf;rw[if_neg c,if_pos e]
     rw[this];simp;omega
    .have:vf a.S b.S=0:=by unfold vf;rw[if_neg c,if_neg e]
     rw[this];simp;omega
def yue(a b:Cmd)(st:Store)(R:Ja)(h:∀x:Bool,(x=true↔F5 b a)->R (bool x) st):Jb 166 [.agg (yg a),.agg (yg b)] st R:=by refine Qy 18 func166 ?_;refine Qc zb yfv ?_;refine⟨cx a.P b.P _ _ ?_,O⟩;refine⟨Qe,?_⟩;refine⟨cx a.S b.S _ _ ?_,O⟩;refine⟨Qe,?_⟩;refine⟨ψ,?_⟩;refine⟨yk0 [vf a.P b.P,vf a.S b.S] φ _ _ ?_,O⟩;refine⟨Qe,?_⟩;refine Qbx ?_;refine⟨_,st,Tt,Store.Has.refl st,h _ ?_⟩;rw[decide_eq_true_iff];exact yuf a b
def yu8(a b:Cmd)(st:Store)(R:Ja)(h:∀x:Bool,(x=true↔F5 a b)->R (bool x) st):Jb 82 [.agg (yg a),.agg (yg b)] st R:=by
 refine Qy 24 func82 ?_;refine zg (λc=>⟨_,st,Tt,Store.Has.refl st,h _ ?_⟩) (λc=>?_)
 .unfold F5;simp at c⊢;omega
 refine zg (λd=>?_) (λd=>⟨_,st,Tt,Store.Has.refl st,h _ ?_⟩)
 .refine⟨_,st,Tt,Store.Has.refl st,h _ ?_⟩;unfold F5;simp at c d⊢;omega
 .unfold F5;simp at c d⊢;omega
def Wq(a:Int)(l:List Cmd)(i:Nat):Prop:=∀j,j<i->(h:j<Γ l)->(jh l[j]/\l[j].P<=a)/\(0<j->F5 (l[j-1]'Z) l[j])
def Wp{a:Int}{l:List Cmd}{i:Nat}(h:Wq a l i)(c:i<Γ l)(e:(jh l[i]/\l[i].P<=a)/\(0<i->F5 (l[i-1]'Z) l[i])):Wq a l (i+1):=by
 intro j f d;by_cases b:j=i
 .subst b;exact e
 .exact h j Z d
def ypw(f:Frm)(a:Int)(hf:f.fits)(st:Store)(R:Ja)(h:∀x:Bool,(x=true↔Mf a f.C)->R (bool x) st):Jb 144 [.agg (xc f),int a] st R:=by
 refine Qy 44 func144 ?_;have no:¬Mf a f.C->R (bool false) st:=λhn=>h false θ2
 refine AWp.loop (σ:=Nat) ⟨λi=>[(1,.av (int a)),(2,.bx 2 0),(8,.av (lst 10 yg f.C)),(9,.av (int (Γ f.C))),(10,.av (int (i:Nat)))],λ_=>[(2,xc f)],
  λi c=>i<=Γ f.C/\c=st/\Wq a f.C i,λi=>Γ f.C-i⟩ zb ?_ ?_
 .refine⟨0,O,⟨Fae _,rfl,λj l=>Z⟩,⟨Y,Y,Y,?_,Y,O⟩,Qe⟩;rw[<-zj (f:=yg) f.C];exact Y
 .rintro i c ⟨t,rfl,e⟩;have hlen:=hf.1;refine zg (λh1=>?_) (λh1=>?_)
  .have d:i<Γ f.C:=by simpa using h1
   refine⟨i,rfl,J _ (zm d) ?_⟩;refine Qc zb yf2 ?_;refine⟨zgz f.C[i] (hf.2 _ (Faa d)) _ _ (λb hb=>?_),O⟩;refine⟨O,?_⟩;cases b with
   |false=>
    refine Qbw ?_;exact⟨_,c,Tt,Store.Has.refl c,no (λk=>by have:=hb.2 (k.2 i d).1.1;cases this)⟩
   |true=>
    refine zg (λh2=>?_) (λh2=>?_)
    .refine Qbw ?_;exact⟨_,c,Tt,Store.Has.refl c,no (λk=>by have:=(k.2 i d).1.2;simp at h2;omega)⟩
    .refine zg (λg=>?_) (λg=>?_)
     .have g:0<i:=by simpa using g
      refine⟨⟨Z,Z⟩,?_⟩;refine⟨i-1,Z,J _ (zm (show i-1<Γ f.C by omega)) ?_⟩;refine⟨yue f.C[i] f.C[i-1] _ _ (λx o=>?_),O⟩;refine⟨Qe,?_⟩;cases x with
      |false=>exact⟨_,c,Tt,Store.Has.refl c,no (λk=>by have:=o.2 ((k.2 i d).2 g);cases this)⟩
      |true=>
       refine⟨⟨Z,Z⟩,?_⟩;refine⟨i+1,?_,⟨d,rfl,Wp e d ⟨⟨hb.1 rfl,θt⟩,λ_=>o.1 rfl⟩⟩,Qbt,Qe⟩;show Γ f.C-(i+1)<Γ f.C-i;omega
     .have g:¬0<i:=by simpa using g
      refine Qbw ?_;refine⟨⟨Z,Z⟩,?_⟩;refine⟨i+1,?_,⟨d,rfl,Wp e d ⟨⟨hb.1 rfl,θt⟩,λp=>absurd p g⟩⟩,Qbt,Qe⟩;show Γ f.C-(i+1)<Γ f.C-i;omega
  .have n:i=Γ f.C:=by
    have:¬i<Γ f.C:=θe;omega
   subst n;refine⟨_,c,Tt,Store.Has.refl c,h _ ?_⟩;rw[zj,decide_eq_true_iff];unfold Mf;constructor
   .intro h2;exact⟨Z,λj l=>e j l l⟩
   .intro h2;have:=h2.1;omega
def bo(r:Rep)(i:Nat):Prop:=∀j,j<i->(h:j<Γ r.F)->r.F[j].turn=j/\Mf r.P r.F[j].C
def zfe{r:Rep}{i:Nat}(h:bo r i)(b:i<Γ r.F)(d:r.F[i].turn=i/\Mf r.P r.F[i].C):bo r (i+1):=by
 intro j e c;by_cases a:j=i
 .subst a;exact d
 .exact h j Z c
def zbt(r:Rep)(k:r.fits)(st:Store)(R:Ja)(h:∀x:Bool,(x=true↔Dh r)->R (bool x) st):Jb 79 [.agg (xy r)] st R:=by
 refine Qy 45 func79 ?_;have no:¬Dh r->R (bool false) st:=λhn=>h false θ2;refine zg (λu=>⟨_,st,Tt,Store.Has.refl st,no (λd=>by have:=d.1;simp at u;omega)⟩) (λu=>?_);refine zg (λt=>⟨_,st,Tt,Store.Has.refl st,no (λd=>by have:=d.1;simp at t;omega)⟩) (λt=>?_);refine nt r.G k.1 _ _ (λb hb=>?_);cases b with
 |false=>exact⟨_,st,Tt,Store.Has.refl st,no (λd=>by have:=hb.2 d.2.1;cases this)⟩
 |true=>
 refine zg (λg=>⟨_,st,Tt,Store.Has.refl st,no (λd=>by have:=d.2.2.1;rw[zj]at g;simp at g;omega)⟩) (λg=>?_);rw[zj]at g
 refine AWp.loop (σ:=Nat) ⟨λi=>[(1,.bx 1 0),(26,.av (lst 3 xc r.F)),(27,.av (int (Γ r.F))),(28,.av (int (i:Nat)))],λ_=>[(1,xy r)],
  λi a=>i<=Γ r.F/\a=st/\bo r i,λi=>Γ r.F-i⟩ zb ?_ ?_
 .refine⟨0,O,⟨Fae _,rfl,λj l=>Z⟩,⟨Y,Y,?_,Y,O⟩,Qe⟩;rw[<-zj (f:=xc) r.F];exact Y
 .rintro i a ⟨w,rfl,e⟩;have hlen:=k.2.1;refine zg (λp=>?_) (λp=>?_)
  .have c:i<Γ r.F:=by simpa using p
   refine⟨i,rfl,J _ (zm c) ?_⟩;refine zg (λo=>⟨_,a,Tt,Store.Has.refl a,no (λd=>by have:=(d.2.2.2 i c).1;simp[this]at o)⟩) (λo=>?_);refine ypw r.F[i] r.P (k.2.2 _ (Faa c)) _ _ (λx v=>?_);cases x with
   |false=>exact⟨_,a,Tt,Store.Has.refl a,no (λd=>by have:=v.2 (d.2.2.2 i c).2;cases this)⟩
   |true=>
    refine⟨⟨Z,Z⟩,?_⟩;refine⟨i+1,?_,⟨c,rfl,zfe e c ⟨by simpa using o,v.1 rfl⟩⟩,Qbt,Qe⟩;show Γ r.F-(i+1)<Γ r.F-i;omega
  .have n:i=Γ r.F:=by
    have:¬i<Γ r.F:=by simpa using p
    omega
   subst n;refine⟨_,a,Tt,Store.Has.refl a,h true ?_⟩;simp only[true_iff];exact⟨by simp at u t;omega,hb.1 rfl,by simp at g;omega,λj l=>e j l l⟩
def zbu(r:Rep)(v:r.fits)(st:Store)(R:Ja)(h:∀x:Bool,(x=true↔Dh r)->R (bool x) st):Jb 28 [.agg (xy r)] st R:=by
 refine Qy 92 func28 ?_;have no:¬Dh r->R (bool false) st:=λhn=>h false θ2;refine zg (λD=>⟨_,st,Tt,Store.Has.refl st,no (λd=>by have:=d.1;simp at D;omega)⟩) (λD=>?_);refine zg (λA=>⟨_,st,Tt,Store.Has.refl st,no (λd=>by have:=d.1;simp at A;omega)⟩) (λA=>?_);refine ze1 r.G v.1 _ _ (λb hb=>?_);cases b with
 |false=>exact⟨_,st,Tt,Store.Has.refl st,no (λd=>by have:=hb.2 d.2.1;cases this)⟩
 |true=>
 refine zg (λt=>⟨_,st,Tt,Store.Has.refl st,no (λd=>by have:=d.2.2.1;rw[zj]at t;simp at t;omega)⟩) (λt=>?_);rw[zj]at t
 refine AWp.loop (σ:=Nat) ⟨λi=>[(1,.bx 1 0),(3,.av (int (i:Nat)))],λ_=>[(1,xy r)],
  λi a=>i<=Γ r.F/\a=st/\bo r i,λi=>Γ r.F-i⟩ zb ?_ ?_
 .exact⟨0,O,⟨Fae _,rfl,λj g=>Z⟩,⟨Y,Y,O⟩,Qe⟩
 .rintro i a ⟨K,rfl,e⟩;have hlen:=v.2.1;refine zg (λz=>?_) (λz=>?_)
  .have c:i<Γ r.F:=ql z;have hfit:=v.2.2 _ (Faa c);have hclen:=hfit.1;refine⟨i,rfl,J _ (zm c) ?_⟩;refine zg (λy=>⟨_,a,Tt,Store.Has.refl a,no (λd=>by have:=(d.2.2.2 i c).1;simp[this]at y)⟩) (λy=>?_);refine zg (λp=>⟨_,a,Tt,Store.Has.refl a,no (λd=>by have:=(d.2.2.2 i c).2.1;rw[zj]at p;simp at p;omega)⟩) (λp=>?_);rw[zj]at p
   refine AWp.loop (σ:=Nat) ⟨λk=>[(1,.bx 1 0),(3,.av (int (i:Nat))),(4,.bx 4 0),(5,.av (int (k:Nat)))],λ_=>[(1,xy r),(4,xc r.F[i])],
    λk H=>k<=r.F[i].C.length/\H=a/\Wq r.P r.F[i].C k,λk=>r.F[i].C.length-k⟩ zb ?_ ?_
   .exact⟨0,O,⟨Fae _,rfl,λj g=>Z⟩,Qbt,Qe⟩
   .rintro k a ⟨I,rfl,f⟩;refine zg (λw=>?_) (λw=>?_)
    .have hklt:k<r.F[i].C.length:=ql w;refine Qc zb yc4 ?_;refine⟨k,rfl,J _ (zm hklt) ?_⟩;refine⟨Iv r.F[i].C[k] (hfit.2 _ (Faa hklt)) _ _ (λL n=>?_),O⟩;refine⟨Qe,?_⟩;cases L with
     |false=>
      refine Qbw ?_;exact⟨_,a,Tt,Store.Has.refl a,no (λd=>by have:=n.2 ((d.2.2.2 i c).2.2 k hklt).1.1;cases this)⟩
     |true=>
      refine⟨k,rfl,J _ (zm hklt) ?_⟩;refine zg (λu=>?_) (λu=>?_)
      .refine Qbw ?_;exact⟨_,a,Tt,Store.Has.refl a,no (λd=>by have:=((d.2.2.2 i c).2.2 k hklt).1.2;simp at u;omega)⟩
      .refine zg (λo=>?_) (λo=>?_)
       .have o:0<k:=by simpa using o
        refine⟨⟨Z,Z⟩,?_⟩;refine⟨k-1,Z,J _ (zm (show k-1<r.F[i].C.length by omega)) ?_⟩;refine⟨k,rfl,J _ (zm hklt) ?_⟩;refine⟨yu8 r.F[i].C[k-1] r.F[i].C[k] _ _ (λx E=>?_),O⟩;refine⟨Qe,?_⟩;cases x with
        |false=>exact⟨_,a,Tt,Store.Has.refl a,no (λd=>by have:=E.2 (((d.2.2.2 i c).2.2 k hklt).2 o);cases this)⟩
        |true=>
         refine⟨⟨Z,Z⟩,?_⟩;refine⟨k+1,?_,⟨hklt,rfl,Wp f hklt ⟨⟨n.1 rfl,by simpa using u⟩,λ_=>E.1 rfl⟩⟩,Qbt,Qe⟩;show r.F[i].C.length-(k+1)<r.F[i].C.length-k;omega
       .have o:¬0<k:=by simpa using o
        refine Qbw ?_;refine⟨⟨Z,Z⟩,?_⟩;refine⟨k+1,?_,⟨hklt,rfl,Wp f hklt ⟨⟨n.1 rfl,by simpa using u⟩,λB=>absurd B o⟩⟩,Qbt,Qe⟩;show r.F[i].C.length-(k+1)<r.F[i].C.length-k;omega
    .have l:k=r.F[i].C.length:=qr w I;subst l;refine⟨⟨Z,Z⟩,?_⟩;refine⟨i+1,?_,⟨c,rfl,zfe e c ⟨by simpa using y,by simp at p;omega,λj g=>f j g g⟩⟩,⟨Y,Y,O⟩,Qe⟩;show Γ r.F-(i+1)<Γ r.F-i;omega
  .have l:i=Γ r.F:=qr z K;subst l;refine⟨_,a,Tt,Store.Has.refl a,h true ?_⟩;simp only[true_iff];exact⟨by simp at D A;omega,hb.1 rfl,by simp at t;omega,λj g=>e j g g⟩
noncomputable def ki:Wld->List Frm->List Int
 |_,[]=>[]
 |w,f::l=>Gd (ja w f.C)::ki (ja w f.C) l
noncomputable def Ag(w:Wld)(l:List Frm):Wld:=l.foldl (λw f=>ja w f.C) w
theorem za2(f:Frm):∀(w:Wld) (l:List Frm),ki w (l++[f])=ki w l++[Gd (ja (Ag w l) f.C)]
 |w,[]=>rfl
 |w,g::l=>congrArg _ (za2 f (ja w g.C) l)
theorem Nk:∀(w:Wld) (l:List Frm),(ki w l).length=Γ l
 |_,[]=>rfl
 |w,f::l=>congrArg (·+1) (Nk (ja w f.C) l)
def lf:∀(l:List Frm) {w:Wld},playW w->playW (Ag w l)
 |[],_,h=>h
 |f::l,_,h=>lf l (lh h f.C)
section
variable {w:Wld} {F:List Frm} {i:Nat}
def ro(a:i<Γ F):Ag w (F.take (i+1))=ja (Ag w (F.take i)) F[i].C:=by rw[Fab a];unfold Ag;rw[Fdu];rfl
theorem ia(a:i<Γ F):ki w (F.take (i+1))=ki w (F.take i)++[Gd (ja (Ag w (F.take i)) F[i].C)]:=by rw[Fab a,za2]
noncomputable def vi(w:Wld)(l:List Frm):Bool:=decide (ki w l=l.map λf=>f.hash)
def zay(b:i<Γ F):vi w (F.take (i+1))=(vi w (F.take i)&&(Gd (ja (Ag w (F.take i)) F[i].C)==F[i].hash)):=by unfold vi;rw[ia b,Fab b,Fa8,Fbm,decide_eq_true_iff,Fay,decide_eq_true_iff,beq_iff_eq];refine⟨λh=>?_,λ⟨a,h2⟩=>by rw[a,h2];rfl⟩;obtain⟨a,h2⟩:=List.append_inj h (by rw[Nk,Fas]);exact⟨a,θt⟩
end
def zbb(r:Rep)(B:r.fits):Jb 27 [.agg (xy r)] Store.empty λv _=>(¬Dh r/\v=.tup [lst 1 Ac [],V.bool false,int 1])\/(Dh r/\v=.tup [lst 1 Ac (ki (j2 r.G r.P) r.F),V.bool (vi (j2 r.G r.P) r.F),int 0]):=by
 refine Qy 58 func27 ?_;refine zbt r B _ _ (λz W=>?_);refine ya ?_;refine zg (λy=>?_) (λy=>?_);rotate_left
 .refine zbq (r:=.tup [lst 1 Ac [],V.bool false,int 1]) (AV.le_tupL ⟨AV.le_nil 1,Tt,Tt,O⟩) (.inl ⟨λhh=>?_,rfl⟩);rw[W.2 hh]at y;cases y
 have hrep:=W.1 y;have p:D4 r.G r.P:=⟨hrep.2.1,hrep.1⟩
 have o:=zch p;refine zi5 r.G B.1 (by have:=qg hrep.2.1;omega) r.P (by unfold yr;have:=hrep.1;omega) _ _ (λhb=>absurd p hb) (λ_=>?_);refine zi4 o ψ _ (λj Se hE X=>?_);have A:=zj (f:=xc) r.F;have η:=hrep.2.2.1;have D:=B.2.2;have E:=hrep.2.2.2;generalize j2 r.G r.P=c at*
 refine AWp.loop (σ:=Nat×Nat×AV) ⟨λx=>[(2,.av x.2.2),(3,.av (V.bool (vi c (r.F.take x.1)))),(7,.av (ptr j)),(31,.av (lst 3 xc r.F)),(32,.av (int (Γ r.F:Nat))),(33,.av (int (x.1:Nat)))],λ_=>[],
  λx S=>x.1<=Γ r.F/\x.2.1<=x.1*4096/\Sp [EngR j 4096 x.2.1 (Ag c (r.F.take x.1)),TokR 1 x.2.2 (rws Ac (ki c (r.F.take x.1)))] S,λx=>Γ r.F-x.1⟩ zb ?_ ?_
 .have e0:vi c (r.F.take 0)=true:=decide_eq_true rfl;refine⟨(0,0,nil),O,⟨Fae _,Fae _,Sp.more hE (Sp.none (TokR.nil 1) rfl) X⟩,⟨Y,?_,Y,Y,?_,Y,O⟩,O⟩
  .dsimp only;rw[e0];exact Y
  .rw[<-A];exact Y
 clear hE X;rintro⟨i,k,v⟩ S ⟨hi,hk,t⟩;dsimp only at hi hk t⊢;refine bcd (λc3=>?_) (λc3=>?_);rotate_left
 .have:i=Γ r.F:=Z;subst this;rw[Fal]at t⊢;obtain⟨a,g,_,_,ht,_⟩:=t.at 1 rfl;exact zbq (r:=.tup [lst 1 Ac (ki c r.F),V.bool (vi c r.F),int 0]) (AV.le_tupL ⟨ht.le,Tt,Tt,O⟩) (.inr ⟨hrep,rfl⟩)
 have d:i<Γ r.F:=Z;refine⟨i,rfl,J _ (zm d) ?_⟩;have l:=lf (r.F.take i) o;have e1:=ro (w:=c) d;have e2:=ia (w:=c) d;have e3:=zay (w:=c) d;have hrl2:=Nk c (r.F.take i);rw[Fah]at hrl2;have I:=D _ (Faa d);have K:=(E i d).2.1;generalize r.F[i]=f at*;generalize Ag c (r.F.take i)=wi at*;generalize ki c (r.F.take i)=H at*;generalize vi c (r.F.take i)=z at*;refine(t.at 0 rfl).call (xs:=[ptr j,lst 10 yg f.C]) (T:=λ_ U=>∃h,h<=k+4096/\EngR j 4096 h (ja wi f.C) U) (λa M=>yq2 M l _ (.inr yrs) I.2 K Z _ (λh U h1 u=>⟨h,h1,u⟩)) (λ_ a' ⟨h,ε,L⟩ U Q=>?_);have u:=Q (EngR j 4096 h (ja wi f.C)) L;have n:=lh l f.C;refine(u.at 0 rfl).look (xs:=[ptr j]) (.agg (zo (ja wi f.C))) (λa M T hT=>yqz M n.sizes T hT) ?_;refine ynd (ja wi f.C) (zdt n.1) _ _ ?_;have esum:vo C0 (Du (ja wi f.C))=Gd (ja wi f.C):=rfl;rw[esum];generalize ja wi f.C=w2 at*;generalize Gd w2=hash at*;refine⟨ψ,?_⟩;refine(u.at 1 rfl).app (ie:=ti12) rfl rfl (rows:=[Ac hash]) rfl φ ?_ (λb S6 h8=>?_)
 .simp only[Fad,zj,Fao];show(Γ H+1)*8<=_/\Γ H+1<=_;omega
 have h9:Sp [EngR j 4096 h (Ag c (r.F.take (i+1))),TokR 1 (.lst 1 (rws Ac H++[Ac hash]) (Δ b)) (rws Ac (ki c (r.F.take (i+1))))] S6:=by rw[e1,e2];unfold rws at h8⊢;rw[Fa8];exact h8
 have fin:∀R:Bool,R=vi c (r.F.take (i+1))->LV.le (.av (V.bool R)) (.av (V.bool (vi c (r.F.take (i+1))))):=λR e=>e▸Y;refine zg (λc4=>?_) (λc4=>?_)
 all_goals
  refine Qd ?_;refine⟨(i+1,h,_),(show Γ r.F-(i+1)<Γ r.F-i by omega),⟨d,ζ,h9⟩,⟨Y,fin _ ?_,Y,Y,Y,Y,O⟩,O⟩;rw[e3,c4];rfl
section
variable {fb n i b:Nat} {E S:Store} {v:AV}
def Qbj{p:Prop}(h:p:=by rw[<-e];exact Fa4 h2):p:=h
def Qbk{p:Prop}(h:p:=by rw[Fas];exact hlt):p:=h
def Qbl{p:Prop}(h:p:=by rw[Fas];omega):p:=h
def Qbm{p:Prop}(h:p:=by cases hx):p:=h
def Qbn{p:Prop}(h:p:=by rw[hob];simp):p:=h
def jj:AV->Option Nat
 |.s (.slice (Δ ⟨b,0,Θ⟩) _ _)=>Δ b
 |_=>Θ
def dirC(n:Nat)(d:Nat):List AV:=[.s (.slice (Δ ⟨d,0,Θ⟩) n n)]
structure FlowP(fb:Nat)(g:Gnd)(l:List Bld)(E:Store)(v1 v2 v3 v4:AV)(q:List (Int×Int×Nat))(ds:List Nat):Prop where
 h0:E.obj fb=Δ (.cells [v1,v2,v3,v4])
 h1:Ints E v1 (q.map (·.1))
 h2:Ints E v2 (q.map (·.2.1))
 h3:Ints E v3 (q.map λx=>(x.2.2:Int))
 h4:RowsO 1 (dirC (Γ g.T)) E v4 ds
 len:Γ ds=Γ q
 ok:∀(i:Nat) x d,q[i]?=Δ x->ds[i]?=Δ d->E.obj d=Δ (.cells (wayL g l x.1 x.2.1 x.2.2))
 o0:fb∉ds
 o1:∀x,jj v1=Δ x->x≠fb/\x∉ds/\jj v2≠Δ x/\jj v3≠Δ x/\jj v4≠Δ x
 o2:∀x,jj v2=Δ x->x≠fb/\x∉ds/\jj v3≠Δ x/\jj v4≠Δ x
 o3:∀x,jj v3=Δ x->x≠fb/\x∉ds/\jj v4≠Δ x
 o4:∀x,jj v4=Δ x->x≠fb/\x∉ds
def FlowK(fb:Nat)(g:Gnd)(l:List Bld)(k:Nat)(E:Store):Prop:=∃e d c a q f,FlowP fb g l E e d c a q f/\Γ q<=k
def yqa(g:Gnd)(l:List Bld)(h:E.obj fb=Δ (.cells [nil,nil,nil,nil])):FlowK fb g l 0 E:=
 ⟨nil,nil,nil,nil,[],[],⟨h,.inl ⟨rfl,rfl⟩,.inl ⟨rfl,rfl⟩,.inl ⟨rfl,rfl⟩,.inl ⟨rfl,rfl⟩,rfl,λi x d hx=>Qbm,φ,λx hx=>Qbm,λx hx=>Qbm,λx hx=>Qbm,λx hx=>Qbm⟩,Fai _⟩
def na{c:List Int}(h:Ints S v c):∃d a,v=.s (.slice d (Γ c) a)/\(∀x,jj v=Δ x->S.obj x≠Θ)/\∀i,i<Γ c->∃b L,d=Δ ⟨b,0,Θ⟩/\S.obj b=Δ (.cells (c.map aI++L)):=by
 rcases h with⟨rfl,rfl⟩|⟨b,a,L,rfl,f,k,j,g⟩
 .exact⟨Θ,0,rfl,λx hx=>Qbm,λi e=>(by simp at e)⟩
 .exact⟨_,a,rfl,λx hx=>(by cases hx;rw[f];simp),λi e=>⟨b,L,rfl,f⟩⟩
def yg7{c:List Nat}(h:RowsO 1 (dirC n) S v c):∃d a,v=.s (.slice d (Γ c) a)/\(∀x,jj v=Δ x->S.obj x≠Θ)/\∀i,i<Γ c->∃b L,d=Δ ⟨b,0,Θ⟩/\S.obj b=Δ (.cells ((rws (dirC n) c).flatten++L)):=by
 rcases h with⟨rfl,rfl⟩|⟨b,a,L,rfl,f,k,j,g⟩
 .exact⟨Θ,0,rfl,λx hx=>Qbm,λi e=>(by simp at e)⟩
 .exact⟨_,a,rfl,λx hx=>(by cases hx;rw[f];simp),λi e=>⟨b,L,rfl,f⟩⟩
def nc{ns:List Int}{L:List AV}(a:i<Γ ns):((ns.map aI++L).drop (0+i*1)).head?=Δ (int ns[i]):=by rw[Fb0,Far χ,Fau,Fbd,Fem];simp[a];rfl
def yr7{a:List Nat}{L:List AV}(c:i<Γ a):(((rws (dirC n) a).flatten++L).drop (0+i*1)).head?=Δ (.s (.slice (Δ ⟨a[i],0,Θ⟩) n n)):=by have:=xx (f:=dirC n) (k:=1) (L:=L) (λ_=>rfl) c;rw[this];rfl
def Bq{p:Nat}(f:Fresh S b\/∃a,v=.s (.slice (Δ ⟨b,0,Θ⟩) n a))(c:S.obj p≠Θ)(d:∀x,jj v=Δ x->x≠p):b≠p:=by
 rcases f with h|⟨a,h⟩
 .exact λe=>c (e▸h.1)
 .exact d b (by rw[h];rfl)
def Nw{u:AV}(f:Fresh S b\/∃a,v=.s (.slice (Δ ⟨b,0,Θ⟩) n a))(c:∀x,jj u=Δ x->S.obj x≠Θ)(d:∀x,jj v=Δ x->jj u≠Δ x):jj u≠Δ b:=λe=>by
 rcases f with h|⟨a,h⟩
 .exact c b e h.1
 .exact d b (by rw[h];rfl) e
def m9{a:List Int}(h:Ints S v a)(d:jj v≠Δ b)(x:AObj):Ints (S.sO b x) v a:=
 W7 h (λg n f c e=>d (by rw[c,e];rfl)) x
def Vz{c:List Nat}(h:RowsO 1 (dirC n) S v c)(f:jj v≠Δ b)(x:AObj):RowsO 1 (dirC n) (S.sO b x) v c:=by
 rcases h with⟨rfl,rfl⟩|⟨j,a,L,rfl,d,g⟩
 .exact .inl ⟨rfl,rfl⟩
 .refine .inr ⟨j,a,L,rfl,?_,g⟩;rw[zi (λe=>f (by rw[e];rfl))];exact d
def yqx{k:Nat}{w:Wld}(hm:yd w)(oa:Option Addr)(n0 c0:Nat)(hF:FlowK fb w.G w.B k E)(hk:k<=1000000000){c s:Int}(hc:c=0\/c=1\/c=2)(hs:0<=s)(a:Nat)(hgo:a<Γ w.G.T)(R:Ja)
  (h:∀b E',FlowK fb w.G w.B (k+1) E'->E'.obj b=Δ (.cells (wayL w.G w.B c s a))->R (.s (.slice (Δ ⟨b,0,Θ⟩) (Γ w.G.T) (Γ w.G.T))) E'):
  Jb 336 [ptr fb,.agg (zy w (.s (.slice oa n0 c0))),int c,int s,int (a:Nat)] E R:=by
 have f:=xr hm;have hB:=f.hB;obtain⟨v1,v2,v3,v4,q,p,H,hq⟩:=hF;obtain⟨a1,c1,rfl,m1,g1⟩:=na H.h1;obtain⟨a2,c2,rfl,m2,g2⟩:=na H.h2;obtain⟨a3,c3,rfl,m3,g3⟩:=na H.h3;obtain⟨a4,Q,rfl,m4,g4⟩:=yg7 H.h4;simp only[Fas]at H g1 g2 g3 m1 m2 m3;refine Qy 109 func336 ?_
 refine AWp.loop (σ:=Nat) ⟨λi=>[(0,.av (ptr fb)),(2,.av (int c)),(3,.av (int s)),(4,.av (int (a:Nat))),(6,.bx 6 0),(11,.av (int (i:Nat)))],λ_=>[(6,zy w (.s (.slice oa n0 c0)))],
  λi u=>u=E/\i<=Γ q,λi=>Γ q-i⟩ zb ?_ ?_
 .exact⟨0,O,⟨rfl,Fae _⟩,Qbt,⟨rfl,O⟩⟩
 rintro i u ⟨rfl,hi⟩;refine J (o:=u.obj fb) _ H.h0 ?_;refine bcd (λd1=>?_) (λd1=>?_)
 .have hlt:i<Γ q:=Z;obtain⟨A,L1,e1,X⟩:=g1 i hlt;obtain⟨C,L2,e2,W⟩:=g2 i hlt;obtain⟨D,L3,e3,V⟩:=g3 i hlt;obtain⟨M,L4,e4,ε⟩:=g4 i (by have:=H.len;omega);subst e1 e2 e3 e4;have τ:i<Γ p:=by have:=H.len;omega
  have r1:=nc (ns:=q.map (·.1)) (L:=L1) (i:=i) Qbk;have r2:=nc (ns:=q.map (·.2.1)) (L:=L2) (i:=i) Qbk;have r3:=nc (ns:=q.map λx=>(x.2.2:Int)) (L:=L3) (i:=i) Qbk;have r4:=yr7 (n:=Γ w.G.T) (L:=L4) τ;rw[Fbj]at r1 r2 r3;refine J (o:=u.obj fb) _ H.h0 ?_;refine⟨i,rfl,hlt,?_⟩;refine Qby ?_;refine J _ r1 ?_;refine zp (λk1=>?_) (λk1=>?_);rotate_left
  .refine Qd ?_;exact⟨i+1,(show Γ q-(i+1)<Γ q-i by omega),⟨rfl,hlt⟩,Qbt,⟨rfl,O⟩⟩
  refine J (o:=u.obj fb) _ H.h0 ?_;refine⟨i,rfl,hlt,?_⟩;refine Qby ?_;refine J _ r2 ?_;refine zp (λk2=>?_) (λk2=>?_);rotate_left
  .refine Qd ?_;exact⟨i+1,(show Γ q-(i+1)<Γ q-i by omega),⟨rfl,hlt⟩,Qbt,⟨rfl,O⟩⟩
  refine J (o:=u.obj fb) _ H.h0 ?_;refine⟨i,rfl,hlt,?_⟩;refine Qby ?_;refine J _ r3 ?_;refine zp (λk3=>?_) (λk3=>?_);rotate_left
  .refine Qd ?_;exact⟨i+1,(show Γ q-(i+1)<Γ q-i by omega),⟨rfl,hlt⟩,Qbt,⟨rfl,O⟩⟩
  refine J (o:=u.obj fb) _ H.h0 ?_;refine⟨i,rfl,τ,?_⟩;refine Qby ?_;refine J _ r4 ?_;refine ret (h p[i] u ⟨_,_,_,_,q,p,H,Z⟩ ?_);have:=H.ok i q[i] p[i] (Fac hlt) (Fac τ);have k1:q[i].1=c:=k1;have k2:q[i].2.1=s:=k2;have k3:(q[i].2.2:Int)=(a:Int):=k3;have k3:q[i].2.2=a:=Z;rw[k1,k2,k3]at this;exact this
 .refine yi0 f.hg Z f.hb hc hs a hgo _ _ (λb N hN hd=>?_);have hlq:i=Γ q:=Z;have ο:b≠fb:=λe=>hd b (xk hN) (by rw[e];exact xk H.h0);have hbd:b∉p:=λt=>by
   obtain⟨j,hj,e⟩:=Faj t;have hjq:j<Γ q:=by have:=H.len;omega
   have:=H.ok j q[j] p[j] (Fac hjq) (Fac hj);exact hd b (xk hN) (by rw[<-e];exact xk this)
  have ν:∀{x:Nat},u.obj x≠Θ->b≠x:=λ{x} g e=>hd b (xk hN) (.inl (e▸g));have hob:(N.un u).obj b=Δ (.cells (wayL w.G w.B c s a)):=yf hd hN;have π:∀{x:Nat} {y:AObj},u.obj x=Δ y->(N.un u).obj x=Δ y:=λK=>zh K;have hI:∀{v:AV} {ns:List Int},Ints u v ns->Ints (N.un u) v ns:=λ{v ns} h=>by
   rcases h with h|⟨b,cap,L,I,h2,h3⟩
   .exact .inl h
   .exact .inr ⟨b,cap,L,I,zh h2,h3⟩
  have p0:=π H.h0;have p1:=hI H.h1;have p2:=hI H.h2;have p3:=hI H.h3;have p4:RowsO 1 (dirC (Γ w.G.T)) (N.un u) (.s (.slice a4 (Γ p) Q)) p:=H.h4.un;have pok:∀(i:Nat) x d,q[i]?=Δ x->p[i]?=Δ d->(N.un u).obj d=Δ (.cells (wayL w.G w.B x.1 x.2.1 x.2.2)):=λi x d I h2=>zh (H.ok i x d I h2);have t:∀{x:Nat},u.obj x≠Θ->(N.un u).obj x≠Θ:=λ{x} g=>by
   cases K:u.obj x with
   |none=>exact absurd K g
   |some y=>rw[zh K];simp
  have nb1:∀x,jj (.s (.slice a1 (Γ q) c1))=Δ x->x≠b:=λx g=>Ne.symm (ν (m1 x g));have nb2:∀x,jj (.s (.slice a2 (Γ q) c2))=Δ x->x≠b:=λx g=>Ne.symm (ν (m2 x g));have nb3:∀x,jj (.s (.slice a3 (Γ q) c3))=Δ x->x≠b:=λx g=>Ne.symm (ν (m3 x g));have nb4:∀x,jj (.s (.slice a4 (Γ p) Q))=Δ x->x≠b:=λx g=>Ne.symm (ν (m4 x g));have m1:=λx g=>t (m1 x g);have m2:=λx g=>t (m2 x g);have m3:=λx g=>t (m3 x g);have m4:=λx g=>t (m4 x g);have o0:=H.o0;have o1:=H.o1;have o2:=H.o2;have o3:=H.o3;have o4:=H.o4;have hlen:=H.len;have pds:∀d,d∈p->(N.un u).obj d≠Θ:=λd hd'=>by obtain⟨j,hj,e⟩:=Faj hd';have:=pok j q[j] p[j] (Fac Z) (Fac hj);rw[<-e,this];simp
  clear hI π hN hd t H g1 g2 g3 g4 ν;generalize N.un u=S at*;refine Qc zb yb1 ?_;refine Qby ?_;refine⟨ψ,?_⟩;refine Qby ?_;refine⟨ψ,?_⟩;refine Qby ?_;refine⟨ψ,?_⟩;refine⟨?_,O⟩;refine dw (ie:=ti2) (v:=(.s (.slice a1 (Γ q) c1))) (ns:=q.map (·.1)) rfl rfl rfl p1 c Qbl (λA P L1 X q11 q12 q13=>?_);have ef1:fb≠A:=Ne.symm (Bq X (by rw[p0];simp) (λx g=>(o1 x g).1));have eb1:b≠A:=Ne.symm (Bq X Qbn nb1);have ed1:A∉p:=λt=>Bq X (pds _ t) (λx g e=>(o1 x g).2.1 (e▸t)) rfl;have ex12:jj (.s (.slice a2 (Γ q) c2))≠Δ A:=Nw X m2 (λx g=>(o1 x g).2.2.1);have ex13:jj (.s (.slice a3 (Γ q) c3))≠Δ A:=Nw X m3 (λx g=>(o1 x g).2.2.2.1);have ex14:jj (.s (.slice a4 (Γ p) Q))≠Δ A:=Nw X m4 (λx g=>(o1 x g).2.2.2.2);have kk:∀{y:Nat} {z:AObj},y≠A->S.obj y=Δ z->(S.sO A (.cells (((q.map (·.1))++[c]).map aI++L1))).obj y=Δ z:=λh K=>(zi h).trans K;have t:∀y,S.obj y≠Θ->(S.sO A (.cells (((q.map (·.1))++[c]).map aI++L1))).obj y≠Θ:=λy K=>by
   by_cases e:y=A
   .rw[e,zd];simp
   .rw[zi e];exact K
  have p0:=kk ef1 p0;have hob:=kk eb1 hob;have pok:=λ(i:Nat) x d (I:q[i]?=Δ x) (h2:p[i]?=Δ d)=>kk (λ(e:d=A)=>ed1 Qbj) (pok i x d I h2);have pds:=λd hd=>t d (pds d hd);have z1:(S.sO A (.cells (((q.map (·.1))++[c]).map aI++L1))).obj A=_:=zd _ _ _;have m2:=λx g=>t x (m2 x g);have p2:=m9 p2 ex12 (.cells (((q.map (·.1))++[c]).map aI++L1));have m3:=λx g=>t x (m3 x g);have p3:=m9 p3 ex13 (.cells (((q.map (·.1))++[c]).map aI++L1));have m4:=λx g=>t x (m4 x g);have p4:=Vz p4 ex14 (.cells (((q.map (·.1))++[c]).map aI++L1));clear kk t X;generalize(S.sO A (.cells (((q.map (·.1))++[c]).map aI++L1)))=S1 at*;refine⟨Qe,?_⟩;refine⟨?_,O⟩;refine dw (ie:=ti2) (v:=(.s (.slice a2 (Γ q) c2))) (ns:=q.map (·.2.1)) rfl rfl rfl p2 s Qbl (λC U L2 W q21 q22 q23=>?_);have ef2:fb≠C:=Ne.symm (Bq W (by rw[p0];simp) (λx g=>(o2 x g).1));have eb2:b≠C:=Ne.symm (Bq W Qbn nb2);have ed2:C∉p:=λt=>Bq W (pds _ t) (λx g e=>(o2 x g).2.1 (e▸t)) rfl;have ex23:jj (.s (.slice a3 (Γ q) c3))≠Δ C:=Nw W m3 (λx g=>(o2 x g).2.2.1);have ex24:jj (.s (.slice a4 (Γ p) Q))≠Δ C:=Nw W m4 (λx g=>(o2 x g).2.2.2);have en21:A≠C:=Ne.symm (Bq W (by rw[z1];simp) (λx g e=>ex12 (e▸g)));have kk:∀{y:Nat} {z:AObj},y≠C->S1.obj y=Δ z->(S1.sO C (.cells (((q.map (·.2.1))++[s]).map aI++L2))).obj y=Δ z:=λh K=>(zi h).trans K;have t:∀y,S1.obj y≠Θ->(S1.sO C (.cells (((q.map (·.2.1))++[s]).map aI++L2))).obj y≠Θ:=λy K=>by
   by_cases e:y=C
   .rw[e,zd];simp
   .rw[zi e];exact K
  have p0:=kk ef2 p0;have hob:=kk eb2 hob;have pok:=λ(i:Nat) x d (I:q[i]?=Δ x) (h2:p[i]?=Δ d)=>kk (λ(e:d=C)=>ed2 Qbj) (pok i x d I h2);have pds:=λd hd=>t d (pds d hd);have z1:=kk en21 z1;have z2:(S1.sO C (.cells (((q.map (·.2.1))++[s]).map aI++L2))).obj C=_:=zd _ _ _;have m3:=λx g=>t x (m3 x g);have p3:=m9 p3 ex23 (.cells (((q.map (·.2.1))++[s]).map aI++L2));have m4:=λx g=>t x (m4 x g);have p4:=Vz p4 ex24 (.cells (((q.map (·.2.1))++[s]).map aI++L2));clear kk t W;generalize(S1.sO C (.cells (((q.map (·.2.1))++[s]).map aI++L2)))=S2 at*;refine⟨Qe,?_⟩;refine⟨?_,O⟩;refine dw (ie:=ti2) (v:=(.s (.slice a3 (Γ q) c3))) (ns:=q.map λx=>(x.2.2:Int)) rfl rfl rfl p3 (a:Int) Qbl (λD n3 L3 V q31 q32 q33=>?_);have ef3:fb≠D:=Ne.symm (Bq V (by rw[p0];simp) (λx g=>(o3 x g).1));have eb3:b≠D:=Ne.symm (Bq V Qbn nb3);have ed3:D∉p:=λt=>Bq V (pds _ t) (λx g e=>(o3 x g).2.1 (e▸t)) rfl;have ex34:jj (.s (.slice a4 (Γ p) Q))≠Δ D:=Nw V m4 (λx g=>(o3 x g).2.2);have en31:A≠D:=Ne.symm (Bq V (by rw[z1];simp) (λx g e=>ex13 (e▸g)));have en32:C≠D:=Ne.symm (Bq V (by rw[z2];simp) (λx g e=>ex23 (e▸g)));have kk:∀{y:Nat} {z:AObj},y≠D->S2.obj y=Δ z->(S2.sO D (.cells (((q.map λx=>(x.2.2:Int))++[(a:Int)]).map aI++L3))).obj y=Δ z:=λh K=>(zi h).trans K;have t:∀y,S2.obj y≠Θ->(S2.sO D (.cells (((q.map λx=>(x.2.2:Int))++[(a:Int)]).map aI++L3))).obj y≠Θ:=λy K=>by
   by_cases e:y=D
   .rw[e,zd];simp
   .rw[zi e];exact K
  have p0:=kk ef3 p0;have hob:=kk eb3 hob;have pok:=λ(i:Nat) x d (I:q[i]?=Δ x) (h2:p[i]?=Δ d)=>kk (λ(e:d=D)=>ed3 Qbj) (pok i x d I h2);have pds:=λd hd=>t d (pds d hd);have z1:=kk en31 z1;have z2:=kk en32 z2;have z3:(S2.sO D (.cells (((q.map λx=>(x.2.2:Int))++[(a:Int)]).map aI++L3))).obj D=_:=zd _ _ _;have m4:=λx g=>t x (m4 x g);have p4:=Vz p4 ex34 (.cells (((q.map λx=>(x.2.2:Int))++[(a:Int)]).map aI++L3));clear kk t V;generalize(S2.sO D (.cells (((q.map λx=>(x.2.2:Int))++[(a:Int)]).map aI++L3)))=S3 at*;refine⟨Qe,?_⟩;refine⟨?_,O⟩;refine J _ rfl (ju rfl (jr (v:=(.s (.slice (Δ ⟨A,0,Θ⟩) ((q.map (·.1))++[c]).length P))) rfl rfl rfl rfl ?_));refine yu (i:=ti63) (v:=(.s (.slice (Δ ⟨A,0,Θ⟩) ((q.map (·.1))++[c]).length P))) (b:=fb) (o:=0) (l:=[(.s (.slice a1 (Γ q) c1)),(.s (.slice a2 (Γ q) c2)),(.s (.slice a3 (Γ q) c3)),(.s (.slice a4 (Γ p) Q))]) (st2:=S3.sO fb (.cells [(.s (.slice (Δ ⟨A,0,Θ⟩) ((q.map (·.1))++[c]).length P)),(.s (.slice a2 (Γ q) c2)),(.s (.slice a3 (Γ q) c3)),(.s (.slice a4 (Γ p) Q))])) rfl rfl rfl p0 (show 1<=4 by decide) rfl ?_;refine⟨Qe,?_⟩;refine⟨?_,O⟩;refine J _ rfl (ju rfl (jr (v:=(.s (.slice (Δ ⟨C,0,Θ⟩) ((q.map (·.2.1))++[s]).length U))) rfl rfl rfl rfl ?_));refine yu (i:=ti63) (v:=(.s (.slice (Δ ⟨C,0,Θ⟩) ((q.map (·.2.1))++[s]).length U))) (b:=fb) (o:=1) (l:=[(.s (.slice (Δ ⟨A,0,Θ⟩) ((q.map (·.1))++[c]).length P)),(.s (.slice a2 (Γ q) c2)),(.s (.slice a3 (Γ q) c3)),(.s (.slice a4 (Γ p) Q))]) (st2:=S3.sO fb (.cells [(.s (.slice (Δ ⟨A,0,Θ⟩) ((q.map (·.1))++[c]).length P)),(.s (.slice (Δ ⟨C,0,Θ⟩) ((q.map (·.2.1))++[s]).length U)),(.s (.slice a3 (Γ q) c3)),(.s (.slice a4 (Γ p) Q))])) rfl rfl rfl (zd _ _ _) (show 2<=4 by decide) (ym _ _ _ _) ?_;refine⟨Qe,?_⟩;refine⟨?_,O⟩;refine J _ rfl (ju rfl (jr (v:=(.s (.slice (Δ ⟨D,0,Θ⟩) ((q.map λx=>(x.2.2:Int))++[(a:Int)]).length n3))) rfl rfl rfl rfl ?_));refine yu (i:=ti63) (v:=(.s (.slice (Δ ⟨D,0,Θ⟩) ((q.map λx=>(x.2.2:Int))++[(a:Int)]).length n3))) (b:=fb) (o:=2) (l:=[(.s (.slice (Δ ⟨A,0,Θ⟩) ((q.map (·.1))++[c]).length P)),(.s (.slice (Δ ⟨C,0,Θ⟩) ((q.map (·.2.1))++[s]).length U)),(.s (.slice a3 (Γ q) c3)),(.s (.slice a4 (Γ p) Q))]) (st2:=S3.sO fb (.cells [(.s (.slice (Δ ⟨A,0,Θ⟩) ((q.map (·.1))++[c]).length P)),(.s (.slice (Δ ⟨C,0,Θ⟩) ((q.map (·.2.1))++[s]).length U)),(.s (.slice (Δ ⟨D,0,Θ⟩) ((q.map λx=>(x.2.2:Int))++[(a:Int)]).length n3)),(.s (.slice a4 (Γ p) Q))])) rfl rfl rfl (zd _ _ _) (show 3<=4 by decide) (ym _ _ _ _) ?_;refine⟨Qe,?_⟩;have kk:∀{y:Nat} {z:AObj},y≠fb->S3.obj y=Δ z->(S3.sO fb (.cells [(.s (.slice (Δ ⟨A,0,Θ⟩) ((q.map (·.1))++[c]).length P)),(.s (.slice (Δ ⟨C,0,Θ⟩) ((q.map (·.2.1))++[s]).length U)),(.s (.slice (Δ ⟨D,0,Θ⟩) ((q.map λx=>(x.2.2:Int))++[(a:Int)]).length n3)),(.s (.slice a4 (Γ p) Q))])).obj y=Δ z:=λh K=>(zi h).trans K;have t:∀y,S3.obj y≠Θ->(S3.sO fb (.cells [(.s (.slice (Δ ⟨A,0,Θ⟩) ((q.map (·.1))++[c]).length P)),(.s (.slice (Δ ⟨C,0,Θ⟩) ((q.map (·.2.1))++[s]).length U)),(.s (.slice (Δ ⟨D,0,Θ⟩) ((q.map λx=>(x.2.2:Int))++[(a:Int)]).length n3)),(.s (.slice a4 (Γ p) Q))])).obj y≠Θ:=λy K=>by
   by_cases e:y=fb
   .rw[e,zd];simp
   .rw[zi e];exact K
  have p0:(S3.sO fb (.cells [(.s (.slice (Δ ⟨A,0,Θ⟩) ((q.map (·.1))++[c]).length P)),(.s (.slice (Δ ⟨C,0,Θ⟩) ((q.map (·.2.1))++[s]).length U)),(.s (.slice (Δ ⟨D,0,Θ⟩) ((q.map λx=>(x.2.2:Int))++[(a:Int)]).length n3)),(.s (.slice a4 (Γ p) Q))])).obj fb=_:=zd _ _ _;have hob:=kk ο hob;have pok:=λ(i:Nat) x d (I:q[i]?=Δ x) (h2:p[i]?=Δ d)=>kk (λ(e:d=fb)=>o0 Qbj) (pok i x d I h2);have pds:=λd hd=>t d (pds d hd);have z1:=kk (Ne.symm ef1) z1;have z2:=kk (Ne.symm ef2) z2;have z3:=kk (Ne.symm ef3) z3;have m4:=λx g=>t x (m4 x g);have p4:=Vz p4 (b:=fb) (λe=>(o4 fb e).1 rfl) (.cells [(.s (.slice (Δ ⟨A,0,Θ⟩) ((q.map (·.1))++[c]).length P)),(.s (.slice (Δ ⟨C,0,Θ⟩) ((q.map (·.2.1))++[s]).length U)),(.s (.slice (Δ ⟨D,0,Θ⟩) ((q.map λx=>(x.2.2:Int))++[(a:Int)]).length n3)),(.s (.slice a4 (Γ p) Q))]);clear kk t;generalize(S3.sO fb (.cells [(.s (.slice (Δ ⟨A,0,Θ⟩) ((q.map (·.1))++[c]).length P)),(.s (.slice (Δ ⟨C,0,Θ⟩) ((q.map (·.2.1))++[s]).length U)),(.s (.slice (Δ ⟨D,0,Θ⟩) ((q.map λx=>(x.2.2:Int))++[(a:Int)]).length n3)),(.s (.slice a4 (Γ p) Q))]))=S4 at*;refine Qby ?_;refine⟨ψ,?_⟩;refine O3 (f:=dirC (Γ w.G.T)) (ie:=ti63) (v:=(.s (.slice a4 (Γ p) Q))) (l:=p) rfl (λ_=>rfl) ψ p4 b rfl Z (λM n4 L4 ε q41 υ ς=>?_);have ef4:fb≠M:=Ne.symm (Bq ε (by rw[p0];simp) (λx g=>(o4 x g).1));have eb4:b≠M:=Ne.symm (Bq ε Qbn nb4);have ed4:M∉p:=λt=>Bq ε (pds _ t) (λx g e=>(o4 x g).2 (e▸t)) rfl;have en41:A≠M:=Ne.symm (Bq ε (by rw[z1];simp) (λx g e=>ex14 (e▸g)));have en42:C≠M:=Ne.symm (Bq ε (by rw[z2];simp) (λx g e=>ex24 (e▸g)));have en43:D≠M:=Ne.symm (Bq ε (by rw[z3];simp) (λx g e=>ex34 (e▸g)));refine yu (i:=ti350) (v:=.s (.slice (Δ ⟨M,0,Θ⟩) (p++[b]).length n4)) (b:=fb) (o:=3) (l:=[(.s (.slice (Δ ⟨A,0,Θ⟩) ((q.map (·.1))++[c]).length P)),(.s (.slice (Δ ⟨C,0,Θ⟩) ((q.map (·.2.1))++[s]).length U)),(.s (.slice (Δ ⟨D,0,Θ⟩) ((q.map λx=>(x.2.2:Int))++[(a:Int)]).length n3)),(.s (.slice a4 (Γ p) Q))]) (st2:=((S4.sO M (.cells ((rws (dirC (Γ w.G.T)) (p++[b])).flatten++L4))).sO fb (.cells [(.s (.slice (Δ ⟨A,0,Θ⟩) ((q.map (·.1))++[c]).length P)),(.s (.slice (Δ ⟨C,0,Θ⟩) ((q.map (·.2.1))++[s]).length U)),(.s (.slice (Δ ⟨D,0,Θ⟩) ((q.map λx=>(x.2.2:Int))++[(a:Int)]).length n3)),(.s (.slice (Δ ⟨M,0,Θ⟩) (p++[b]).length n4))]))) rfl rfl rfl ((zi ef4).trans p0) (show 4<=4 by decide) rfl ?_;have kk:∀{x:Nat} {y:AObj},x≠fb->x≠M->S4.obj x=Δ y->((S4.sO M (.cells ((rws (dirC (Γ w.G.T)) (p++[b])).flatten++L4))).sO fb (.cells [(.s (.slice (Δ ⟨A,0,Θ⟩) ((q.map (·.1))++[c]).length P)),(.s (.slice (Δ ⟨C,0,Θ⟩) ((q.map (·.2.1))++[s]).length U)),(.s (.slice (Δ ⟨D,0,Θ⟩) ((q.map λx=>(x.2.2:Int))++[(a:Int)]).length n3)),(.s (.slice (Δ ⟨M,0,Θ⟩) (p++[b]).length n4))])).obj x=Δ y:=λI h2 K=>(zi I).trans ((zi h2).trans K);have y0:((S4.sO M (.cells ((rws (dirC (Γ w.G.T)) (p++[b])).flatten++L4))).sO fb (.cells [(.s (.slice (Δ ⟨A,0,Θ⟩) ((q.map (·.1))++[c]).length P)),(.s (.slice (Δ ⟨C,0,Θ⟩) ((q.map (·.2.1))++[s]).length U)),(.s (.slice (Δ ⟨D,0,Θ⟩) ((q.map λx=>(x.2.2:Int))++[(a:Int)]).length n3)),(.s (.slice (Δ ⟨M,0,Θ⟩) (p++[b]).length n4))])).obj fb=_:=zd _ _ _;have y1:=kk (Ne.symm ef1) en41 z1;have y2:=kk (Ne.symm ef2) en42 z2;have y3:=kk (Ne.symm ef3) en43 z3;have y4:((S4.sO M (.cells ((rws (dirC (Γ w.G.T)) (p++[b])).flatten++L4))).sO fb (.cells [(.s (.slice (Δ ⟨A,0,Θ⟩) ((q.map (·.1))++[c]).length P)),(.s (.slice (Δ ⟨C,0,Θ⟩) ((q.map (·.2.1))++[s]).length U)),(.s (.slice (Δ ⟨D,0,Θ⟩) ((q.map λx=>(x.2.2:Int))++[(a:Int)]).length n3)),(.s (.slice (Δ ⟨M,0,Θ⟩) (p++[b]).length n4))])).obj M=_:=(zi (Ne.symm ef4)).trans (zd _ _ _);have yb:=kk ο eb4 hob;have yok:=λ(i:Nat) x d (I:q[i]?=Δ x) (h2:p[i]?=Δ d)=>kk (λ(e:d=fb)=>o0 Qbj) (λ(e:d=M)=>ed4 Qbj) (pok i x d I h2)
  generalize((S4.sO M (.cells ((rws (dirC (Γ w.G.T)) (p++[b])).flatten++L4))).sO fb (.cells [(.s (.slice (Δ ⟨A,0,Θ⟩) ((q.map (·.1))++[c]).length P)),(.s (.slice (Δ ⟨C,0,Θ⟩) ((q.map (·.2.1))++[s]).length U)),(.s (.slice (Δ ⟨D,0,Θ⟩) ((q.map λx=>(x.2.2:Int))++[(a:Int)]).length n3)),(.s (.slice (Δ ⟨M,0,Θ⟩) (p++[b]).length n4))]))=S6 at*;have hm1:(q++[(c,s,a)]).map (·.1)=q.map (·.1)++[c]:=φ;have hm2:(q++[(c,s,a)]).map (·.2.1)=q.map (·.2.1)++[s]:=φ;have hm3:((q++[(c,s,a)]).map λx=>(x.2.2:Int))=(q.map λx=>(x.2.2:Int))++[(a:Int)]:=φ;have ι:∀{x:Nat},x∉p->x≠b->x∉p++[b]:=λ{x} I h2 t=>by
   rcases Faw.1 t with t|t
   .exact I t
   .exact h2 (Fci.1 t)
  have η:∀{x y n c:Nat},x≠y->jj (.s (.slice (Δ ⟨x,0,Θ⟩) n c))≠Δ y:=λ{x y n c} h e=>h (Option.some.inj e);refine ret (h b S6 ⟨_,_,_,_,q++[(c,s,a)],p++[b],⟨y0,?_,?_,?_,?_,?_,?_,?_,?_,?_,?_,?_⟩,?_⟩ yb)
  .rw[hm1];exact .inr ⟨A,P,L1,rfl,y1,q11,q12,q13⟩
  .rw[hm2];exact .inr ⟨C,U,L2,rfl,y2,q21,q22,q23⟩
  .rw[hm3];exact .inr ⟨D,n3,L3,rfl,y3,q31,q32,q33⟩
  .exact .inr ⟨M,n4,L4,rfl,y4,q41,υ,ς⟩
  .rw[Fad,Fad,hlen];rfl
  .intro j x d I h2;rcases Nat.lt_or_ge j (Γ q) with hj|hj
   .rw[Far hj]at I;rw[Far Z]at h2;exact yok j x d I h2
   .rw[Fa0 hj]at I;rw[Fa0 Z]at h2;have hj0:j-Γ q=0:=by
     have:=(Fa1.1 I).1;simp at this;omega
    rw[hj0]at I;rw[show j-Γ p=0 by omega]at h2;cases I;cases h2;exact yb
  .exact ι o0 (Ne.symm ο)
  .intro x g;cases g;exact⟨Ne.symm ef1,ι ed1 (Ne.symm eb1),η (Ne.symm en21),η (Ne.symm en31),η (Ne.symm en41)⟩
  .intro x g;cases g;exact⟨Ne.symm ef2,ι ed2 (Ne.symm eb2),η (Ne.symm en32),η (Ne.symm en42)⟩
  .intro x g;cases g;exact⟨Ne.symm ef3,ι ed3 (Ne.symm eb3),η (Ne.symm en43)⟩
  .intro x g;cases g;exact⟨Ne.symm ef4,ι ed4 (Ne.symm eb4)⟩
  .rw[Fad,Fao];omega
end
section
variable {fb i:Nat} {E:Store}
def Qbo{p:Prop}(h:p:=by repeat(first|exact O|refine⟨rfl,?_⟩|refine⟨J (o:=(A.un E').obj b) _ hob (yv (i:=ti64) (row:=zr w.U[i].pos) rfl rfl hpd rfl),?_⟩|refine⟨J (o:=(A.un E').obj b) _ hob (J _ hnx rfl),?_⟩)):p:=h
def Qbp{p:Prop}(h:p:=by repeat(first|exact O|refine⟨rfl,?_⟩|refine⟨J (o:=(N.un E).obj b) _ hoS (yv (i:=ti64) (row:=zr w.U[i].pos) rfl rfl (Kf hi) rfl),?_⟩)):p:=h
def Qbq{p:Prop}(h:p:=by rw[Faf];simp only[Fcj];omega):p:=h
def FlowK.mono{k a:Nat}{g:Gnd}{l:List Bld}(h:FlowK fb g l k E)(f:k<=a):FlowK fb g l a E:=by obtain⟨e,d,c,b,q,o,n,j⟩:=h;exact⟨e,d,c,b,q,o,n,Fb7 j f⟩
def za5{A:Store}{w:Wld}{v:AV}(g:RowsQ 10 zf A v w.U)(b:zl A E)(f:playW w)(j:i<Γ w.U)(l:w.U[i].inn=0)(d:Vc)(k:d.ok)(R:Ja)
  (h:∀a (N:Store),RowsQ 10 zf (N.un A) a (xj w w.U[i] d).U->zl (N.un A) E->R (.tup [.agg (zy (xj w w.U[i] d) a),int (Bj w w.U[i] d)]) ((N.un A).un E)):
  Jb 330 [.agg (zy w v),int w.U[i].id,.agg (zr d)] (A.un E) R:=by
 refine ACalls.frame b (ygp g f j l d k (λr S=>∃a,∃N:Store,RowsQ 10 zf (N.un A) a (xj w w.U[i] d).U/\r=.tup [.agg (zy (xj w w.U[i] d) a),int (Bj w w.U[i] d)]/\S=N.un A) (λa N e n=>⟨a,N,e,rfl,rfl⟩)) ?_;rintro r o ⟨a,N,e,rfl,rfl⟩ c;exact h a N e c
def ygh{k0:Nat}(w:Wld)(hE0:FlowK fb w.G w.B k0 E)(hk0:k0<=1000000000)(H:playW w)(hi:i<Γ w.U)(h0:w.U[i].inn=0)(R:Ja)
  (h:∀A v E',RowsQ 10 zf A v (vr w w.U[i]).U->zl A E'->FlowK fb w.G w.B (k0+1) E'->R (.agg (zy (vr w w.U[i]) v)) (A.un E')):
  Jb 236 [.agg (zo w),int w.U[i].id,ptr fb] E R:=by
 have f:=xr H.1;have hU:=f.hU;have hkk:=f.hk _ (Faa hi);have υ:FlowK fb w.G w.B (k0+1) E:=hE0.mono (Fdd k0);refine Qb (c:=cfg 225) zb func236 ?_;refine AWp.seq (AWp.of_vc zb ?_);refine AWp.seq (AWp.of_vc zb ?_);refine Kv w f.fits Z _ _ (λv N hv hd=>?_);rcases hv with⟨_,e⟩|⟨b,K,L,rfl,ho,g1,g2,g3⟩
 .rw[e]at hi;exact absurd hi (Fav i)
 have hvQ:RowsQ 10 zf (N.un E) (.s (.slice (Δ ⟨b,0,Θ⟩) (Γ w.U) K)) w.U:=RowsO.q ((show RowsO 10 zf N _ w.U from .inr ⟨b,K,L,rfl,ho,g1,g2,g3⟩).unL hd);have hoS:(N.un E).obj b=_:=yf hd ho;have hvN:RowsQ 10 zf N (.s (.slice (Δ ⟨b,0,Θ⟩) (Γ w.U) K)) w.U:=RowsO.q (.inr ⟨b,K,L,rfl,ho,g1,g2,g3⟩);have hEb:¬E.has b:=hd b (xk ho);refine AWp.seq (AWp.of_vc zb ?_);refine zbp hvQ H hi w.U[i].id rfl _ ?_;refine AWp.seq (AWp.of_vc zb ?_);refine⟨i,rfl,hi,?_⟩;have hdr:=xx (L:=L) yx hi;refine AWp.seq (AWp.of_vc zb ?_);refine J (o:=(N.un E).obj b) _ hoS ?_;refine J _ (Dq hi (j:=2) ψ rfl) ?_;refine Df w.U[i].kind hkk _ _ ?_;refine AWp.seq (AWp.of_vc zb ?_);refine J (o:=(N.un E).obj b) _ hoS ?_;refine J _ (Dq hi (j:=5) ψ rfl) ?_;unfold vr at h;refine zp (λc1=>?_) (λc1=>?_)
 .rw[if_pos c1]at h;have hsp:=Na w.U[i].kind;have e4:(xa w.U[i].kind).tdiv 4=xa w.U[i].kind/4:=Fat Z;have hq4:yr ((xa w.U[i].kind).tdiv 4):=⟨Z,Z⟩
  have ht:Aj (Bz w w.U[i]):=zep (Hn H.1 (Faa hi) h0) (λx hx C=>Hn H.1 hx C) hU;have hcl:=λP R2=>Pz (Bz w w.U[i]) ((xa w.U[i].kind).tdiv 4) ht Z P R2;refine Qc zb yds ?_;refine⟨ψ,ze hq4 ?_⟩;refine⟨zb2 hvQ H hi h0 _ ⟨Qe,?_⟩,⟨⟨Qe,⟨zb2 hvQ H hi h0 _ ⟨Qe,?_⟩,O⟩⟩,O⟩⟩;refine⟨hcl _ _ ⟨Qe,⟨⟨Qe,⟨⟨Qe,?_⟩,O⟩⟩,O⟩⟩,⟨⟨Qe,⟨hcl _ _ ⟨Qe,⟨⟨Qe,?_⟩,O⟩⟩,O⟩⟩,O⟩⟩;rotate_left 2;refine⟨hcl _ _ ⟨Qe,⟨⟨Qe,?_⟩,O⟩⟩,O⟩
  all_goals
   have hidle:Gr w w.U[i]=xj w w.U[i] (je (Bz w w.U[i]) ((xa w.U[i].kind).tdiv 4)):=rfl;have hvo:=Ld (m:=(xa w.U[i].kind).tdiv 4) ht;rw[hidle]at h;clear hidle hcl;generalize je (Bz w w.U[i]) ((xa w.U[i].kind).tdiv 4)=dv at*;obtain⟨dx,dy⟩:=dv;have hTry:=λR2 h2=>za5 hvN hd H hi h0 (dx,dy) hvo R2 h2;refine zp (λc2=>?_) (λc2=>?_);refine zp (λc3=>?_) (λc3=>?_)
   .have e2:dx=0:=c2;have e3:dy=0:=c3;subst e2 e3;rw[(zkf w w.U[i]).2]at h;exact ret (h N _ E hvN hd υ)
   all_goals
    refine hTry _ (λv2 N2 D n=>?_);have hv3:=D;obtain⟨oa2,cp2,rfl,_⟩:=hv3.form;exact ret (h (N2.un N) _ E D n υ)
 rw[if_neg c1]at h;have τ:=Sz H.1 hi;obtain⟨g,hgq,hgl⟩:∃k:Nat,w.U[i].goal=k/\k<Γ w.G.T:=by
  rcases My f.hg τ.2.1.1 with C|C
  .exact absurd C c1
  .exact C
 have hgoes:Cx w w.U[i]=if w.U[i].pos=ye w.G g then yj w (j7 2 w.U[i])else if Bs w w.U[i] (wh w.G w.U[i].pos)then(if Bb w w.U[i] (wh w.G w.U[i].pos)<0 then yj w (j7 3 w.U[i])else Ay w {w.U[i]with next:=Bb w w.U[i] (wh w.G w.U[i].pos)})else Ay w w.U[i]:=by
  have e:w.U[i].goal.toNat=g:=by rw[hgq,Faz]
  unfold Cx;rw[e]
 rw[hgoes]at h;have hset:∀(S:Store) (u':Unt),S.obj b=Δ (.cells ((rws zf (w.U.set i u')).flatten++L))->RowsQ 10 zf S (.s (.slice (Δ ⟨b,0,Θ⟩) (Γ w.U) K)) (w.U.set i u'):=λS u' hS=>RowsO.q (.inr ⟨b,K,L,by rw[Faf],hS,by rw[Faf];exact g1,by rw[Faf];exact g2,g3⟩);refine AWp.seq (AWp.of_vc zb ?_);refine AWp.seq (AWp.of_vc zb ?_);refine Qc zb ydy ?_;refine J (o:=(N.un E).obj b) _ hoS ?_;refine yv (i:=ti64) (row:=zr w.U[i].pos) rfl rfl (Kf hi) ?_;refine J (o:=(N.un E).obj b) _ hoS ?_;refine J _ (Dq hi (j:=5) ψ rfl) ?_;refine⟨Kx w.G f.hg g hgl w.U[i].goal hgq _ _ ⟨Qbp,?_⟩,O⟩;refine zg (λc2=>?_) (λc2=>?_)
 .have e:w.U[i].pos=ye w.G g:=by
   simp only[Fay,beq_iff_eq]at c2;exact Prod.ext c2.1 c2.2.1
  rw[if_pos e,Cf H.1.1.2.1 hi (u:=j7 2 w.U[i]) rfl]at h;refine ir hoS hi 2 _ ?_;rw[Bx hEb];exact ret (h _ _ E (hset _ _ (zd _ _ _)) (Cl hd hEb) υ)
 have e:¬w.U[i].pos=ye w.G g:=λe=>by
  simp only[e,Fc3,beq_eq_false_iff_ne]at c2;rcases c2 with c2|c2|c2
  .exact c2 rfl
  .exact c2 rfl
  .cases c2
 rw[if_neg e]at h;have hon:=lm H.1 hi h0;have hown:=Wj H.1 hi h0;refine AWp.seq (AWp.of_vc zb ?_);refine Qc zb ydx ?_;refine J (o:=(N.un E).obj b) _ hoS ?_;refine yv (i:=ti64) (row:=zr w.U[i].pos) rfl rfl (Kf hi) ?_;refine⟨yjc w.G f.hg w.U[i].pos hon _ _ ⟨Qbp,?_⟩,O⟩;refine Qbx ?_;generalize wh w.G w.U[i].pos=own at*
 refine AWp.meetA (σ:=Nat) ⟨λ_=>[(1,.av (int w.U[i].id)),(3,.bx 3 0),(6,.bx 6 0),(7,.av (int (i:Nat))),(8,.av (.s (.pointer (Δ ⟨b,0+i*10,Θ⟩)))),(9,.bx 9 0),(13,.bx 13 0)],λ_=>[(3,zy w (.s (.slice (Δ ⟨b,0,Θ⟩) (Γ w.U) K))),(6,Dv),(9,D6 w.U[i].kind),(13,zq w.G)],
  λt st'=>(∃A E',st'=A.un E'/\zl A E'/\FlowK fb w.G w.B (k0+1) E'/\A.obj b=Δ (.cells ((rws zf (w.U.set i {w.U[i]with next:=(t:Int)})).flatten++L)))/\t<Γ w.G.T/\Cx w w.U[i]=Ay w {w.U[i]with next:=(t:Int)}⟩ ?_ ?_
 .refine AWp.meet (σ:=Unit) ⟨λ_=>[(1,.av (int w.U[i].id)),(2,.av (ptr fb)),(3,.bx 3 0),(6,.bx 6 0),(7,.av (int (i:Nat))),(8,.av (.s (.pointer (Δ ⟨b,0+i*10,Θ⟩)))),(9,.bx 9 0),(13,.bx 13 0),(14,.av (int (own:Nat))),(137,.av (V.bool (Bs w w.U[i] own)))],λ_=>[(3,zy w (.s (.slice (Δ ⟨b,0,Θ⟩) (Γ w.U) K))),(6,Dv),(9,D6 w.U[i].kind),(13,zq w.G)],
   λ_ st'=>st'=N.un E⟩ zb ?_ ?_
  .refine Qc zb ydw ?_;refine J (o:=(N.un E).obj b) _ hoS ?_;refine J _ (Dq hi (j:=6) ψ rfl) ?_;refine zp (λd1=>?_) (λd1=>?_)
   .have Q:Bs w w.U[i] own=true:=by
     have d1:w.U[i].next=-1:=d1;unfold Bs;rw[d1];rfl
    rw[Q];refine⟨⟨⟨rfl,O⟩,?_⟩,O⟩;refine⟨⟨⟨rfl,O⟩,?_⟩,O⟩;refine⟨⟨⟨rfl,O⟩,?_⟩,O⟩;refine Qbx ?_;exact⟨(),rfl,Qbt,⟨rfl,rfl,rfl,rfl,O⟩⟩
   have d1:¬w.U[i].next=-1:=d1;obtain⟨nx,hnq,hnl⟩:∃k:Nat,w.U[i].next=k/\k<Γ w.G.T:=by
    rcases My f.hg τ.2.1.2.1 with C|C
    .exact absurd C d1
    .exact C
   have Q:Bs w w.U[i] own=(decide (w.U[i].pos=ye w.G nx)|| !okU w w.U[i] nx||(decide (w.U[i].next≠own)&& !(j4 w.G own).contains w.U[i].next)):=by unfold Bs;rw[decide_eq_false d1,show w.U[i].next.toNat=nx by rw[hnq,Faz]];rfl
   refine J (o:=(N.un E).obj b) _ hoS ?_;refine yv (i:=ti64) (row:=zr w.U[i].pos) rfl rfl (Kf hi) ?_;refine J (o:=(N.un E).obj b) _ hoS ?_;refine J _ (Dq hi (j:=6) ψ rfl) ?_;refine⟨Kx w.G f.hg nx hnl w.U[i].next hnq _ _ ⟨⟨J (o:=(N.un E).obj b) _ hoS (yv (i:=ti64) (row:=zr w.U[i].pos) rfl rfl (Kf hi) rfl),O⟩,?_⟩,O⟩;refine zg (λd2=>?_) (λd2=>?_)
   .have e2:w.U[i].pos=ye w.G nx:=by
     simp only[Fay,beq_iff_eq]at d2;exact Prod.ext d2.1 d2.2.1
    rw[Q,decide_eq_true e2,Bool.true_or,Bool.true_or];refine⟨⟨⟨rfl,O⟩,?_⟩,O⟩;refine⟨⟨⟨rfl,O⟩,?_⟩,O⟩;refine Qbx ?_;exact⟨(),rfl,Qbt,⟨rfl,rfl,rfl,rfl,O⟩⟩
   have e2:¬w.U[i].pos=ye w.G nx:=λe=>by
    simp only[e,Fc3,beq_eq_false_iff_ne]at d2;rcases d2 with d2|d2|d2
    .exact d2 rfl
    .exact d2 rfl
    .cases d2
   rw[decide_eq_false e2,Fd7]at Q;refine J (o:=(N.un E).obj b) _ hoS ?_;refine J _ (Dq hi (j:=6) ψ rfl) ?_;have hgl:nx<(blL (Γ w.G.T) (zn w.G w.B (yk w.U[i].kind) (qn w.U[i].kind))).length:=by rw[jd];exact hnl
   refine⟨ij w.G f.hg w.B (by have:=f.hB;omega) f.hb (yk w.U[i].kind) (Hp _) (qn w.U[i].kind) (Kl _).1 _ _ ⟨⟨J (o:=(N.un E).obj b) _ hoS (J _ (Dq hi (j:=6) ψ rfl) rfl),O⟩,?_⟩,O⟩;refine⟨nx,hnq,J _ (zm hgl) ?_⟩;rw[Cm hnl];refine ya ?_;refine zg (λd3=>?_) (λd3=>?_);rotate_left
   .have e3:okU w w.U[i] nx=false:=d3;rw[Q,e3];refine⟨⟨⟨rfl,O⟩,?_⟩,O⟩;refine Qbx ?_;exact⟨(),rfl,Qbt,⟨rfl,rfl,rfl,rfl,O⟩⟩
   have e3:okU w w.U[i] nx=true:=d3;rw[e3]at Q;refine J (o:=(N.un E).obj b) _ hoS ?_;refine J _ (Dq hi (j:=6) ψ rfl) ?_;refine qd (λd4=>?_) (λd4=>?_);rotate_left
   .have e4:Bs w w.U[i] own=false:=by
     have d4:w.U[i].next=own:=d4;rw[Q,decide_eq_false (by rw[d4];exact λh=>h rfl)];rfl
    rw[e4];refine⟨⟨⟨rfl,O⟩,?_⟩,O⟩;refine Qbx ?_;exact⟨(),rfl,Qbt,⟨rfl,rfl,rfl,rfl,O⟩⟩
   have d4:w.U[i].next≠own:=d4;rw[decide_eq_true d4,Bool.not_true,Fd7,Bool.true_and]at Q;refine J (o:=(N.un E).obj b) _ hoS ?_;refine J _ (Dq hi (j:=6) ψ rfl) ?_;refine⟨Pu w.G f.hg own hown _ _ ⟨⟨J (o:=(N.un E).obj b) _ hoS (J _ (Dq hi (j:=6) ψ rfl) rfl),O⟩,?_⟩,O⟩;refine⟨yh3 (j4 w.G own) (by rw[L6];decide) w.U[i].next _ _ (λz hz=>⟨O,?_⟩),O⟩;have e5:Bs w w.U[i] own=decide (z<0):=by
    rw[Q];cases hc:(j4 w.G own).contains w.U[i].next with
    |true=>rw[decide_eq_false (λh=>by have:=hz.1 h;rw[hc]at this;cases this)];rfl
    |false=>rw[decide_eq_true (hz.2 hc)];rfl
   rw[e5];exact⟨(),rfl,Qbt,⟨rfl,rfl,rfl,rfl,O⟩⟩
  .rintro _ st' rfl;have e1:=Hb (L:=L) hi (j:=6) ψ (y:=int (own:Nat)) (u':={w.U[i]with next:=(own:Int)}) rfl;have W:i<(w.U.set i {w.U[i]with next:=(own:Int)}).length:=by rw[Faf];exact hi
   have X:(w.U.set i {w.U[i]with next:=(own:Int)})[i]={w.U[i]with next:=(own:Int)}:=Fbi ..;refine AWp.cond (Bs w w.U[i] own) rfl (zg (λl1=>?_) (λl1=>?_));rotate_left
   .refine AWp.of_vc zb ?_;have hn1:w.U[i].next≠-1:=λC=>by
     have:Bs w w.U[i] own=true:=by unfold Bs;rw[C];rfl
     rw[this]at l1;cases l1
    obtain⟨nx,hnq,hnl⟩:∃k:Nat,w.U[i].next=k/\k<Γ w.G.T:=by
     rcases My f.hg τ.2.1.2.1 with C|C
     .exact absurd C hn1
     .exact C
    have hself:({w.U[i]with next:=(nx:Int)}:Unt)=w.U[i]:=by rw[<-hnq]
    refine⟨nx,⟨?_,hnl,?_⟩,Qbt,⟨rfl,rfl,rfl,rfl,O⟩⟩
    .exact⟨N,E,rfl,hd,υ,by rw[hself,List.set_getElem_self];exact ho⟩
    .rw[hself,hgoes,if_neg e,if_neg (by rw[l1];decide)]
   rw[if_neg e,if_pos l1]at hgoes;rw[if_pos l1]at h;refine AWp.seq (AWp.of_vc zb ?_);refine yu (i:=ti2) (v:=int (own:Nat)) (b:=b) (o:=0+i*10+6) (l:=(rws zf w.U).flatten++L) (st2:=(N.sO b (.cells ((rws zf (w.U.set i {w.U[i]with next:=(own:Int)})).flatten++L))).un E) rfl rfl rfl hoS (H8 hi ψ) (by rw[e1,Bx hEb]) ?_;have hoA:=zd N b (.cells ((rws zf (w.U.set i {w.U[i]with next:=(own:Int)})).flatten++L));have ι:zl (N.sO b (.cells ((rws zf (w.U.set i {w.U[i]with next:=(own:Int)})).flatten++L))) E:=Cl hd hEb;generalize N.sO b (.cells ((rws zf (w.U.set i {w.U[i]with next:=(own:Int)})).flatten++L))=A1 at*;have hoS1:(A1.un E).obj b=_:=yf ι hoA;obtain⟨S1,hS1⟩:∃S1,A1.un E=S1:=⟨_,rfl⟩
   rw[hS1]at hoS1⊢;have hpd:=Kf (J:=L) W;rw[X]at hpd;refine AWp.seq (AWp.of_vc zb ?_);refine Qc zb ydv ?_;refine Qby ?_;refine yv (i:=ti64) (row:=zr w.U[i].pos) rfl rfl hpd ?_;refine⟨Kx w.G f.hg own hown _ rfl _ _ ⟨⟨J (o:=S1.obj b) _ hoS1 (yv (i:=ti64) (row:=zr w.U[i].pos) rfl rfl hpd rfl),O⟩,?_⟩,O⟩;refine AWp.cond _ rfl (zg (λl2=>?_) (λl2=>?_));rotate_left
   .refine AWp.of_vc zb ?_;have e6:w.U[i].pos≠ye w.G own:=λe=>by
     simp only[e,Fc3,beq_eq_false_iff_ne]at l2;rcases l2 with l2|l2|l2
     .exact l2 rfl
     .exact l2 rfl
     .cases l2
    have hnt:Bb w w.U[i] own=own:=by unfold Bb;rw[if_pos e6]
    rw[hnt,if_neg Z]at hgoes;exact⟨own,⟨⟨A1,E,hS1.symm,ι,υ,hoA⟩,hown,hgoes⟩,Qbt,⟨rfl,rfl,rfl,rfl,O⟩⟩
   have e6:¬w.U[i].pos≠ye w.G own:=λh=>h (by simp only[Fay,beq_iff_eq]at l2;exact Prod.ext l2.1 l2.2.1);have hnt:Bb w w.U[i] own=if xe w.G (zn w.G w.B (yk w.U[i].kind) (qn w.U[i].kind)) (yk w.U[i].kind) (jc w.G (zn w.G w.B (yk w.U[i].kind) (qn w.U[i].kind)) (yk w.U[i].kind) g) own<0 then -1 else yi w.G own (xe w.G (zn w.G w.B (yk w.U[i].kind) (qn w.U[i].kind)) (yk w.U[i].kind) (jc w.G (zn w.G w.B (yk w.U[i].kind) (qn w.U[i].kind)) (yk w.U[i].kind) g) own).toNat:=by unfold Bb;rw[if_neg e6,show w.U[i].goal.toNat=g by rw[hgq,Faz]];rfl
   rw[hnt]at hgoes h;refine AWp.seq (AWp.of_vc zb ?_);refine Qc zb ydu ?_;refine Qby ?_;refine J (x:=int (g:Nat)) (by have:=Dq (J:=L) W (j:=5) ψ (y:=int (g:Nat)) (by rw[X];exact congrArg (λx=>Δ (int x)) hgq);exact this) ?_
   have hcall:∀R',(∀b2 M,zl A1 M->FlowK fb w.G w.B (k0+1) M->M.obj b2=Δ (.cells (wayL w.G w.B (yk w.U[i].kind) (qn w.U[i].kind) g))->R' (.s (.slice (Δ ⟨b2,0,Θ⟩) (Γ w.G.T) (Γ w.G.T))) (A1.un M))->
     Jb 336 [ptr fb,.agg (zy w (.s (.slice (Δ ⟨b,0,Θ⟩) (Γ w.U) K))),int (yk w.U[i].kind),int (qn w.U[i].kind),int (g:Nat)] S1 R':=λR' hR'=>by
    rw[<-hS1,H3 ι];refine ACalls.frame (Iu ι) (yqx H.1 _ _ _ hE0 hk0 (Hp _) (Kl _).1 g hgl (λr S=>∃b2,r=.s (.slice (Δ ⟨b2,0,Θ⟩) (Γ w.G.T) (Γ w.G.T))/\FlowK fb w.G w.B (k0+1) S/\S.obj b2=Δ (.cells (wayL w.G w.B (yk w.U[i].kind) (qn w.U[i].kind) g))) (λb2 S2 C h2=>⟨b2,rfl,C,h2⟩)) ?_;rintro r a' ⟨b2,rfl,C,h2⟩ n;rw[H3 n];exact hR' b2 _ (Iu n) C h2
   have hway:=rx w.G (zn w.G w.B (yk w.U[i].kind) (qn w.U[i].kind)) (yk w.U[i].kind) (jc w.G (zn w.G w.B (yk w.U[i].kind) (qn w.U[i].kind)) (yk w.U[i].kind) g) own;have hhd:=vk (f:=xe w.G (zn w.G w.B (yk w.U[i].kind) (qn w.U[i].kind)) (yk w.U[i].kind) (jc w.G (zn w.G w.B (yk w.U[i].kind) (qn w.U[i].kind)) (yk w.U[i].kind) g)) hown;refine⟨hcall _ (λb2 M hdE ς h2=>⟨O,?_⟩),O⟩;have hb2:(A1.un M).obj b=_:=yf hdE hoA;have hE2b:¬M.has b:=hdE b (xk hoA);refine⟨own,rfl,hown,?_⟩;refine J (o:=(A1.un M).obj b2) _ (zh h2) ?_;refine J _ hhd ?_;clear hcall h2 hhd;generalize xe w.G (zn w.G w.B (yk w.U[i].kind) (qn w.U[i].kind)) (yk w.U[i].kind) (jc w.G (zn w.G w.B (yk w.U[i].kind) (qn w.U[i].kind)) (yk w.U[i].kind) g) own=way at*;refine Qbx ?_;refine AWp.of_vc zb ?_;refine bcd (λc5=>?_) (λc5=>?_)
   .rw[if_pos c5,if_pos ψ,Cf H.1.1.2.1 hi (u:=j7 3 w.U[i]) rfl]at h;refine ir hb2 W 3 _ ?_;rw[Bx hE2b];have hset1:=hset (A1.sO b (.cells ((rws zf ((w.U.set i {w.U[i]with next:=(own:Int)}).set i (j7 3 (w.U.set i {w.U[i]with next:=(own:Int)})[i]))).flatten++L))) (j7 3 w.U[i]) (by
     rw[zd,X,Fbr];rfl)
    exact ret (h _ _ M hset1 (Cl hdE hE2b) ς)
   obtain⟨j,hj,rfl,η⟩:∃j:Nat,j<8/\way=(j:Int)/\0<qk w.G (zn w.G w.B (yk w.U[i].kind) (qn w.U[i].kind)) (yk w.U[i].kind) own j:=by
    rcases hway with C|⟨j,C,h2,h3⟩
    .omega
    .exact⟨j,C,h2,h3⟩
   rw[if_neg c5,Faz]at hgoes;obtain⟨t,htq,ο⟩:∃t:Nat,yi w.G own j=(t:Int)/\t<Γ w.G.T:=by
    rcases K0 f.hg own hj with C|C
    .rw[Pg (Ks C)]at η;omega
    .exact C
   have e7:=Hb (L:=L) W (j:=6) ψ (y:=int (t:Nat)) (u':={w.U[i]with next:=(t:Int)}) (by rw[X];rfl);rw[Fbr]at e7;refine Pu w.G f.hg own hown _ _ ?_;refine⟨j,rfl,J _ (Rl hj) ?_⟩;rw[htq]at hgoes⊢;refine yu (i:=ti2) (v:=int (t:Nat)) (b:=b) (o:=0+i*10+6) (l:=(rws zf (w.U.set i {w.U[i]with next:=(own:Int)})).flatten++L) (st2:=(A1.sO b (.cells ((rws zf (w.U.set i {w.U[i]with next:=(t:Int)})).flatten++L))).un M) rfl rfl rfl hb2 (H8 W ψ) (by rw[e7,Bx hE2b]) ?_;rw[if_neg Z]at hgoes;exact⟨t,⟨⟨_,M,rfl,Cl hdE hE2b,ς,zd _ _ _⟩,ο,hgoes⟩,⟨Y,Y,Y,Y,Y,Y,Y,O⟩,⟨rfl,rfl,rfl,rfl,O⟩⟩
 clear υ hvN hEb hd hoS hvQ;rintro t st' ⟨⟨A,E',rfl,ι,hK',ν⟩,ο,hgo⟩;have hob:(A.un E').obj b=_:=yf ι ν;rw[hgoes,if_neg e]at hgo;rw[hgo]at h;clear hgo hgoes hset;have e0:=Hb (L:=L) hi (j:=6) ψ (y:=int (t:Nat)) (u':={w.U[i]with next:=(t:Int)}) rfl;have W:i<(w.U.set i {w.U[i]with next:=(t:Int)}).length:=θj;have X:(w.U.set i {w.U[i]with next:=(t:Int)})[i]={w.U[i]with next:=(t:Int)}:=Fbi ..;have hpd:=Kf (J:=L) W;rw[X]at hpd;have hnx:(((rws zf (w.U.set i {w.U[i]with next:=(t:Int)})).flatten++L).drop (0+i*10+6)).head?=Δ (int (t:Nat)):=Dq W ψ (by rw[X];rfl);have hmp:=Hn H.1 (Faa hi) h0;have hcm:=pm f.hg ο;have hks:=Na w.U[i].kind;have hway:=La hmp hcm;have hmay1:yd {w with U:=w.U.set i {w.U[i]with next:=(t:Int)}}:=by rw[<-Cf H.1.1.2.1 hi (u:={w.U[i]with next:=(t:Int)}) rfl];exact Rp H.1 hi h0 rfl (O7 τ c1 (Vi f.hg ο) τ.2.1.2.2)
 have hplay:playW {w with U:=w.U.set i {w.U[i]with next:=(t:Int)}}:=⟨hmay1,λx hx=>by
  rcases List.mem_or_eq_of_mem_set hx with C|C
  .exact H.2 x C
  .subst C;show w.U[i].pos.ok;exact H.2 _ (Faa hi)⟩
 have hvS:RowsQ 10 zf A (.s (.slice (Δ ⟨b,0,Θ⟩) (Γ w.U) K)) (w.U.set i {w.U[i]with next:=(t:Int)}):=RowsO.q (.inr ⟨b,K,L,by rw[Faf],ν,by rw[Faf];exact g1,by rw[Faf];exact g2,g3⟩);have htry:=λR'=>za5 (w:={w with U:=w.U.set i {w.U[i]with next:=(t:Int)}}) hvS ι hplay W (by show(w.U.set i {w.U[i]with next:=(t:Int)})[i].inn=0;rw[X];exact h0) (Cc w.U[i].pos (ye w.G t) (xa w.U[i].kind)) (Ld hway) R';have hput:=Cf H.1.1.2.1 hi (u:={w.U[i]with next:=(t:Int)}) rfl;have htp:=zkg (w:=w) (u:={w.U[i]with next:=(t:Int)}) (d:=Cc w.U[i].pos (ye w.G t) (xa w.U[i].kind));have hsp:=zz1 (w:=w) (u:={w.U[i]with next:=(t:Int)}) (d:=Cc w.U[i].pos (ye w.G t) (xa w.U[i].kind)) (by show Cc _ (ye w.G (Int.toNat (t:Int))) _=_;rw[Faz]);rw[hput]at htp;simp only[X]at htry
 refine AWp.meet (σ:=AV) ⟨λv2=>[(6,.bx 6 0),(7,.av (int (i:Nat))),(16,.bx 16 0),(17,.av (int (Bj {w with U:=w.U.set i {w.U[i]with next:=(t:Int)}} {w.U[i]with next:=(t:Int)} (Cc w.U[i].pos (ye w.G t) (xa w.U[i].kind)))))],λv2=>[(6,Dv),(16,zy (xj {w with U:=w.U.set i {w.U[i]with next:=(t:Int)}} {w.U[i]with next:=(t:Int)} (Cc w.U[i].pos (ye w.G t) (xa w.U[i].kind))) v2)],
  λv2 P=>∃A E',P=A.un E'/\zl A E'/\FlowK fb w.G w.B (k0+1) E'/\RowsQ 10 zf A v2 (xj {w with U:=w.U.set i {w.U[i]with next:=(t:Int)}} {w.U[i]with next:=(t:Int)} (Cc w.U[i].pos (ye w.G t) (xa w.U[i].kind))).U⟩ zb ?_ ?_
 .refine Qc zb ydt ?_;refine J (o:=(A.un E').obj b) _ hob ?_;refine yv (i:=ti64) (row:=zr w.U[i].pos) rfl rfl hpd ?_;refine J (o:=(A.un E').obj b) _ hob ?_;refine J _ hnx ?_;refine⟨Kx w.G f.hg t ο _ rfl _ _ ⟨Qbo,⟨ib w.U[i].pos (ye w.G t) (xa w.U[i].kind) hmp hcm Z _ _ ⟨Qbo,⟨htry _ (λv2 N2 D n=>⟨O,⟨⟨(by repeat(first|exact O|refine⟨rfl,?_⟩|refine⟨J (o:=((N2.un A).un E').obj b) _ (yf n (zh ν)) (yv (i:=ti64) (row:=zr w.U[i].pos) rfl rfl hpd rfl),?_⟩|refine⟨J (o:=((N2.un A).un E').obj b) _ (yf n (zh ν)) (J _ hnx rfl),?_⟩)),?_⟩,O⟩⟩),⟨⟨Qbo,⟨htry _ (λv2 N2 D n=>⟨O,?_⟩),O⟩⟩,O⟩⟩⟩,⟨⟨Qbo,⟨ib w.U[i].pos (ye w.G t) (xa w.U[i].kind) hmp hcm Z _ _ ⟨Qbo,⟨htry _ (λv2 N2 D n=>⟨O,?_⟩),O⟩⟩,O⟩⟩,O⟩⟩⟩,⟨⟨Qbo,⟨Kx w.G f.hg t ο _ rfl _ _ ⟨Qbo,⟨ib w.U[i].pos (ye w.G t) (xa w.U[i].kind) hmp hcm Z _ _ ⟨Qbo,⟨htry _ (λv2 N2 D n=>⟨O,?_⟩),O⟩⟩,O⟩⟩,O⟩⟩,O⟩⟩
  all_goals
   have hv3:=D;obtain⟨oa2,cp2,rfl,_⟩:=hv3.form;refine Qbx ?_;refine Qbx ?_;exact⟨_,⟨_,E',rfl,n,hK',D⟩,⟨Y,Y,Y,Y,O⟩,⟨rfl,rfl,O⟩⟩
 rintro v2 P ⟨A2,M,rfl,n,ς,D⟩;rcases hL:qo w {w.U[i]with next:=(t:Int)} (qy (Cc w.U[i].pos (ye w.G t) (xa w.U[i].kind))) 5 0 with _|⟨k,p⟩
 .obtain⟨hK,hW⟩:=htp.1 hL;have η:=hsp.1 hL;rw[hW]at D;rw[hK,hW];rw[η]at h;clear η htp hsp hK hW htry hmay1 hplay;rcases D with(⟨_,e⟩|⟨b3,cap3,L3,rfl,π,k1,k2,k3⟩)|⟨_,_,_,e⟩
  .exact absurd (congrArg List.length e) Qbq
  rotate_left
  .exact absurd (congrArg List.length e) Qbq
  have hst8:=τ.2.1.2.2;have ε:i<(w.U.set i {w.U[i]with next:=(t:Int)}).length:=θj;have hqA:(w.U.set i {w.U[i]with next:=(t:Int)})[i]={w.U[i]with next:=(t:Int)}:=Fbi ..;have erA:=Hb (L:=L3) ε (j:=7) ψ (y:=int (w.U[i].stuck+1)) (u':={w.U[i]with next:=(t:Int),stuck:=w.U[i].stuck+1}) (by rw[hqA];rfl);rw[Fbr]at erA;have hiB:i<(w.U.set i {w.U[i]with next:=(t:Int),stuck:=w.U[i].stuck+1}).length:=θj;have hqB:(w.U.set i {w.U[i]with next:=(t:Int),stuck:=w.U[i].stuck+1})[i]={w.U[i]with next:=(t:Int),stuck:=w.U[i].stuck+1}:=Fbi ..;have erB:=Hb (L:=L3) hiB (j:=6) ψ (y:=int (-1)) (u':={w.U[i]with next:=-1,stuck:=w.U[i].stuck+1}) (by rw[hqB];rfl);rw[Fbr]at erB;have hldA:(((rws zf (w.U.set i {w.U[i]with next:=(t:Int)})).flatten++L3).drop (0+i*10+7)).head?=Δ (int w.U[i].stuck):=Dq ε ψ (by rw[hqA];rfl);have hiC:i<(w.U.set i {w.U[i]with next:=-1,stuck:=w.U[i].stuck+1}).length:=θj;have hqC:(w.U.set i {w.U[i]with next:=-1,stuck:=w.U[i].stuck+1})[i]={w.U[i]with next:=-1,stuck:=w.U[i].stuck+1}:=Fbi ..;have hldC:(((rws zf (w.U.set i {w.U[i]with next:=-1,stuck:=w.U[i].stuck+1})).flatten++L3).drop (0+i*10+7)).head?=Δ (int (w.U[i].stuck+1)):=Dq hiC ψ (by rw[hqC];rfl);have I:¬M.has b3:=n b3 (xk π);refine AWp.of_vc zb ?_;refine⟨i,rfl,ε,?_⟩;refine J (o:=(A2.un M).obj b3) _ (yf n π) ?_;refine J _ hldA ?_;refine⟨⟨Z,Z⟩,?_⟩;refine yu (i:=ti2) (v:=int (w.U[i].stuck+1)) (b:=b3) (o:=0+i*10+7) (l:=(rws zf (w.U.set i {w.U[i]with next:=(t:Int)})).flatten++L3) (st2:=(A2.sO b3 (.cells ((rws zf (w.U.set i {w.U[i]with next:=(t:Int),stuck:=w.U[i].stuck+1})).flatten++L3))).un M) rfl rfl rfl (yf n π) (H8 ε ψ) (by rw[erA,Bx I]) ?_;refine yu (i:=ti2) (v:=int (-1)) (b:=b3) (o:=0+i*10+6) (l:=(rws zf (w.U.set i {w.U[i]with next:=(t:Int),stuck:=w.U[i].stuck+1})).flatten++L3) (st2:=(A2.sO b3 (.cells ((rws zf (w.U.set i {w.U[i]with next:=-1,stuck:=w.U[i].stuck+1})).flatten++L3))).un M) rfl rfl rfl (yf (Cl n I) (zd _ _ _)) (H8 hiB ψ) (by rw[erB,Bx I,ym]) ?_;refine J (o:=((A2.sO b3 (.cells ((rws zf (w.U.set i {w.U[i]with next:=-1,stuck:=w.U[i].stuck+1})).flatten++L3))).un M).obj b3) _ (yf (Cl n I) (zd _ _ _)) ?_;refine J _ hldC ?_;refine zp (λc6=>?_) (λc6=>?_)
  .have c6:w.U[i].stuck+1=8:=c6;rw[if_pos c6,Cf H.1.1.2.1 hi (u:=j7 4 {w.U[i]with next:=(t:Int)}) rfl]at h;refine ir (yf (Cl n I) (zd _ _ _)) hiC 4 _ ?_;rw[Bx I,ym,hqC,Fbr];exact ret (h _ _ M (RowsO.q (.inr ⟨b3,cap3,L3,by rw[Faf,Faf],zd _ _ _,by rw[Faf]at k1⊢;exact k1,by rw[Faf]at k2⊢;exact k2,k3⟩)) (Cl n I) ς)
  .have c6:¬w.U[i].stuck+1=8:=c6;rw[if_neg c6,Cf H.1.1.2.1 hi (u:={w.U[i]with next:=-1,stuck:=w.U[i].stuck+1}) rfl]at h;exact ret (h _ _ M (RowsO.q (.inr ⟨b3,cap3,L3,by rw[Faf,Faf],zd _ _ _,by rw[Faf]at k1⊢;exact k1,by rw[Faf]at k2⊢;exact k2,k3⟩)) (Cl n I) ς)
 .obtain⟨hK,hk5,hW⟩:=htp.2 k p hL;have η:=hsp.2 k p hL;rw[Cf H.1.1.2.1 hi (u:={w.U[i]with next:=(t:Int),pos:=p}) rfl]at hW;rw[hW]at D;rw[hK,hW];rw[η,Cf H.1.1.2.1 hi (u:={w.U[i]with next:=(t:Int),pos:=p,stuck:=0}) rfl]at h;clear η htp hsp hK hW htry hmay1 hplay;rcases D with(⟨_,e⟩|⟨b3,cap3,L3,rfl,π,k1,k2,k3⟩)|⟨_,_,_,e⟩
  .exact absurd (congrArg List.length e) Qbq
  rotate_left
  .exact absurd (congrArg List.length e) Qbq
  have ε:i<(w.U.set i {w.U[i]with next:=(t:Int),pos:=p}).length:=θj;have hqA:(w.U.set i {w.U[i]with next:=(t:Int),pos:=p})[i]={w.U[i]with next:=(t:Int),pos:=p}:=Fbi ..;have erA:=Hb (L:=L3) ε (j:=7) ψ (y:=int (0)) (u':={w.U[i]with next:=(t:Int),pos:=p,stuck:=0}) (by rw[hqA];rfl);rw[Fbr]at erA;have I:¬M.has b3:=n b3 (xk π);refine AWp.of_vc zb ?_;refine⟨i,rfl,ε,?_⟩;refine bcd (λc5=>?_) (λc5=>?_);rotate_left
  .exact absurd (show(k:Int)<5 by omega) c5
  refine yu (i:=ti2) (v:=int (0)) (b:=b3) (o:=0+i*10+7) (l:=(rws zf (w.U.set i {w.U[i]with next:=(t:Int),pos:=p})).flatten++L3) (st2:=(A2.sO b3 (.cells ((rws zf (w.U.set i {w.U[i]with next:=(t:Int),pos:=p,stuck:=0})).flatten++L3))).un M) rfl rfl rfl (yf n π) (H8 ε ψ) (by rw[erA,Bx I]) ?_;exact ret (h _ _ M (RowsO.q (.inr ⟨b3,cap3,L3,by rw[Faf,Faf],zd _ _ _,by rw[Faf]at k1⊢;exact k1,by rw[Faf]at k2⊢;exact k2,k3⟩)) (Cl n I) ς)
end
def Qbr{p:Prop}(h:p:=by repeat(first|exact O|refine⟨rfl,?_⟩|refine⟨⟨i,rfl,J _ (zm hil) rfl⟩,?_⟩)):p:=h
def FlowK.objs{c k:Nat}{g:Gnd}{l:List Bld}{E:Store}(h:FlowK c g l k E):FlowK c g l k E.objs:=by obtain⟨i,f,e,d,q,j,a,b⟩:=h;exact⟨i,f,e,d,q,j,⟨a.h0,a.h1,a.h2,a.h3,a.h4,a.len,a.ok,a.o0,a.o1,a.o2,a.o3,a.o4⟩,b⟩
def ygg{fb k0:Nat}{E:Store}(w:Wld)(j:FlowK fb w.G w.B k0 E)(e:k0<=1000000000)(p:playW w){i:Nat}(u:i<Γ w.U)(I:w.U[i].inn=0)(R:Ja)
  (h:∀a,FlowK fb w.G w.B (k0+1) a->R (.agg (zo (vr w w.U[i]))) a):Jb 236 [.agg (zo w),int w.U[i].id,ptr fb] E R:=by
 refine ACalls.frozenTo (ygh w j e p u I (λr S=>∃A v a,RowsQ 10 zf A v (vr w w.U[i]).U/\zl A a/\FlowK fb w.G w.B (k0+1) a/\r=.agg (zy (vr w w.U[i]) v)/\S=A.un a) (λA v a H D C=>⟨A,v,a,H,D,C,rfl,rfl⟩)) ?_;rintro r S ⟨X,v,l,z,f,g,rfl,rfl⟩;refine⟨.agg (zo (vr w w.U[i])),l.objs,h _ g.objs,λb x hx=>zh hx,λb x hx=>θc,λk M W x sto hx=>?_⟩;have sX:StoreOK X k M W:=sto.weaken ⟨λb y d=>yf f d,λb y d=>Lh f d⟩;have t:∀b,((X.un l).obj b=Θ\/l.objs.obj b≠Θ)->X.obj b=Θ:=λb c=>by
  rcases c with c|c
  .exact(Lv c).1
  .cases hx:X.obj b with
   |none=>rfl
   |some y=>exact absurd (jt (f b (xk hx))).1 c
 exact(Fe z sX hx).mono λb o n=>⟨n.1,t b n.2⟩
def yjq(w:Wld)(n:playW w)(st:Store)(R:Ja)(h:R (.agg (zo (ku w))) st):Jb 151 [.agg (zo w)] st R:=by
 have hm:=xr n.1;have y:=hm.hU;refine Gn (Q:=λr=>r=.agg (zo (ku w))) ?_ st R λr p=>p▸h;refine Qa (c:=cfg 31 [6] []) zb func151 ?_;intro e v;refine AWp.loop (σ:=Nat) ⟨λi=>[(1,.bx 1 0),(2,.bx 2 0),(3,.av (ptr e)),(4,.av (int (i:Nat)))],λi=>[(1,zo (goN w i)),(2,Dv)],λi S=>i<=Γ w.U/\FlowK e w.G w.B i S,λi=>Γ w.U-i⟩ zb ?_ ?_
 .exact⟨0,O,⟨Fae _,yqa _ _ (zd _ _ _)⟩,Qbt,⟨rfl,rfl,O⟩⟩
 rintro i S ⟨D,o⟩;obtain⟨g,t,b,d⟩:=Rz n i;refine zg (λl=>?_) (λl=>?_)
 .have hil:i<(goN w i).U.length:=ql l;have a:i<Γ w.U:=Z;refine⟨i,rfl,J _ (zm hil) ?_⟩;refine zp (λf=>?_) (λf=>?_)
  .have j:=ze5 hil f;refine Qc zb yf0 ?_;refine⟨i,rfl,J _ (zm hil) ?_⟩;have hcall:=λA z=>ygg (E:=S) (k0:=i) (fb:=e) (goN w i) (by rw[b,d];exact o) Z g hil f A z;rw[<-j,b,d]at hcall;refine⟨hcall _ (λH k=>⟨Qbr,?_⟩),O⟩;refine⟨⟨Qbr,?_⟩,O⟩;refine Qd ?_;exact⟨i+1,(show Γ w.U-(i+1)<Γ w.U-i by omega),⟨a,k⟩,Qbt,⟨rfl,rfl,O⟩⟩
  .have j:=ze4 hil f;refine Qd ?_;exact⟨i+1,(show Γ w.U-(i+1)<Γ w.U-i by omega),⟨a,o.mono (Fdd i)⟩,Qbt,⟨by rw[j];rfl,rfl,O⟩⟩
 .have u:=qr l Z;have:i=Γ w.U:=Z;subst this;exact ret rfl
def Qbs{p:Prop}(h:p:=by repeat(first|exact O|refine⟨rfl,?_⟩|refine⟨⟨i,rfl,J _ (zm hlt) rfl⟩,?_⟩)):p:=h
def yje(w:Wld)(b:w.fits)(e:∀u∈w.U,u.pos.ok)(g:Γ w.U<=1000000)(c:Cmd)(f:c.fits)(a:Store)(R:Ja)(h:R (.tup [.agg (zo (doW aE aW w c)),int (doE aE w c)]) a):Jb 150 [.agg (zo w),.agg (yg c)] a R:=
 Gn (Q:=λr=>r=.tup [.agg (zo (doW aE aW w c)),int (doE aE w c)]) (yil c.K w b e g c f rfl (λr _=>r=.tup [.agg (zo (doW aE aW w c)),int (doE aE w c)]) rfl) a R λr d=>d▸h
def ygr(w:Wld)(hp:playW w)(l:List Cmd)(hf:∀c∈l,c.fits)(hl:Γ l<=512):Jb 84 [.agg (zo w),lst 10 yg l] Store.empty λr _=>r=.tup [.agg (zo (ja w l)),lst 1 zx (Lw w l),int (Lx w)]:=by
 have D:=hp.1.1.1.1.1;refine Qy 47 func84 ?_;refine bcd (λC=>?_) (λC=>?_)
 .obtain⟨n,j,k⟩:=ln (w:=w) Z l;rw[n,j,k];exact⟨.tup [.agg (zo w),lst 1 zx [],int 10],Store.empty,AV.le_tupL ⟨Tt,AV.le_nil 1,Tt,O⟩,Store.Has.refl _,rfl⟩
 obtain⟨n,j,k⟩:=lp (w:=w) Z l;rw[n,j,k];refine bcd (λB=>absurd B θg) (λ_=>?_)
 refine AWp.loop (σ:=Nat×AV) ⟨λx=>[(1,.av (lst 10 yg l)),(2,.bx 2 0),(4,.bx 4 0),(7,.av x.2),(8,.av (int (x.1:Nat)))],λx=>[(2,zo (j9 w (l.take x.1))),(4,Dv)],
  λx st'=>x.1<=Γ l/\App 1 Store.empty x.2 (rws zx (wn w (l.take x.1))) st',λx=>Γ l-x.1⟩ zb ?_ ?_
 .exact⟨(0,.s (.slice Θ 0 0)),O,⟨Fae _,App.start 1 _⟩,Qbt,⟨rfl,rfl,O⟩⟩
 rintro⟨i,v⟩ st' ⟨y,g⟩;dsimp only at y g⊢;have a:=Rc (l.take i) hp;have b:=a.sizes;have d:=(xr a.1).fits;refine bcd (λo=>?_) (λo=>?_)
 .have hlt:i<Γ l:=by rw[zj]at o;omega
  obtain⟨t,p⟩:=zgw (w:=w) hlt;have A:(wn w (l.take i)).length<=i:=by rw[pe,Fah];omega
  have hn:=a.2;generalize j9 w (l.take i)=W at*;generalize wn w (l.take i)=T at*;have e:=λ(R:Ja) (h:R (.tup [.agg (zo (doW aE aW W l[i])),int (doE aE W l[i])]) st')=>yje W d hn b.2.2 l[i] (hf _ (Faa hlt)) st' R h;generalize doW aE aW W l[i]=E at*;generalize doE aE W l[i]=j at*;refine Qc zb ya5 ?_;refine⟨i,rfl,J _ (zm hlt) ?_⟩;refine⟨e _ ⟨O,⟨⟨Qbs,⟨⟨O,⟨⟨O,?_⟩,O⟩⟩,O⟩⟩,O⟩⟩,⟨⟨Qbs,⟨e _ ⟨O,⟨⟨O,⟨⟨O,?_⟩,O⟩⟩,O⟩⟩,O⟩⟩,O⟩⟩
  all_goals
   refine⟨ψ,?_⟩;refine Af (ie:=ti2) (rows':=[zx j]) g ?_ ?_ ⟨?_,?_⟩ (λv2 st2 f=>?_)
   .rfl
   .rfl
   .simp only[zj,Fao,ti2];omega
   .simp only[zj,Fao];omega
   refine Qd ?_;refine⟨(i+1,v2),(show Γ l-(i+1)<Γ l-i by omega),⟨ζ,?_⟩,Qbt,⟨by dsimp only;rw[t];rfl,rfl,O⟩⟩;dsimp only;rw[p];unfold rws at f⊢;rw[Fa8];exact f
 .have:i=Γ l:=by rw[zj]at o;omega
  subst this;rw[Fal]at a b d g⊢;have u:=cz l hp;have heng:Gu w l=Pf (j9 w l):=rfl;rw[heng];generalize j9 w l=W at*;generalize wn w l=T at*;refine yjq W a _ _ ?_;have z:(ku W).tick=W.tick:=Oe W _;refine Qd ?_;exact⟨.tup [.agg (zo (Pf W)),lst 1 zx T,int 0],Store.empty,AV.le_tupL ⟨Tt,g.le,Tt,O⟩,g.has,rfl⟩
def ygq(w:Wld)(d:playW w)(l:List Cmd)(f:∀c∈l,c.fits)(e:Γ l<=512)(a:Store)(R:Ja)(h:R (.tup [.agg (zo (ja w l)),lst 1 zx (Lw w l),int (Lx w)]) a):Jb 84 [.agg (zo w),lst 10 yg l] a R:=
 Gn (ygr w d l f e) a R λr b=>b▸h
def ygx(r:Rep)(E:r.fits)(c:Dh r):Jb 30 [.agg (xy r)] Store.empty λv _=>v=.tup [lst 1 Ac (ki (j2 r.G r.P) r.F),V.bool (vi (j2 r.G r.P) r.F)]:=by
 have p:D4 r.G r.P:=⟨c.2.1,c.1⟩
 have o:=zch p;refine Qy 52 func30 ?_;refine yhp r.G E.1 r.P _ _ ?_;have L:=zj (f:=xc) r.F;have Q:=c.2.2.1;have t:=E.2.2;have u:=c.2.2.2;generalize j2 r.G r.P=a at*
 refine AWp.loop (σ:=Nat×AV) ⟨λx=>[(1,.bx 1 0),(4,.bx 4 0),(5,.av (V.bool (vi a (r.F.take x.1)))),(6,.av x.2),(7,.av (int (x.1:Nat)))],λx=>[(1,xy r),(4,zo (Ag a (r.F.take x.1)))],
  λx S=>x.1<=Γ r.F/\App 1 Store.empty x.2 (rws Ac (ki a (r.F.take x.1))) S,λx=>Γ r.F-x.1⟩ zb ?_ ?_
 .have W:vi a (r.F.take 0)=true:=decide_eq_true rfl;refine⟨(0,nil),O,⟨Fae _,App.start 1 _⟩,⟨Y,Y,?_,Y,Y,O⟩,⟨rfl,rfl,O⟩⟩;dsimp only;rw[W];exact Y
 rintro⟨i,v⟩ S ⟨M,k⟩;dsimp only at M k⊢;refine bcd (λX=>?_) (λX=>?_);rotate_left
 .have:i=Γ r.F:=Z;subst this;rw[Fal]at k⊢;exact Az rfl k.has (AV.le_tupL ⟨k.le,Tt,O⟩)
 have b:i<Γ r.F:=Z;have d:=lf (r.F.take i) o;have I:=ro (w:=a) b;have U:=ia (w:=a) b;have T:=zay (w:=a) b;have hrl2:=Nk a (r.F.take i);rw[Fah]at hrl2;have y:=t _ (Faa b);have A:=(u i b).2.1;have l:=λ(R:Ja) (h:R (.tup [.agg (zo (ja (Ag a (r.F.take i)) r.F[i].C)),lst 1 zx (Lw (Ag a (r.F.take i)) r.F[i].C),int (Lx (Ag a (r.F.take i)))]) S)=>ygq (Ag a (r.F.take i)) d r.F[i].C y.2 A S R h;have n:=lh d r.F[i].C;have esum:vo C0 (Du (ja (Ag a (r.F.take i)) r.F[i].C))=Gd (ja (Ag a (r.F.take i)) r.F[i].C):=rfl;have hsum:=λ(R:Ja) (h:R (u64 (Gd (ja (Ag a (r.F.take i)) r.F[i].C))) S)=>yh9 (ja (Ag a (r.F.take i)) r.F[i].C) (zdt n.1) S R h;generalize Ag a (r.F.take i)=wi at*;generalize ki a (r.F.take i)=H at*;generalize vi a (r.F.take i)=z at*;generalize Lw wi r.F[i].C=tl at*;generalize Lx wi=er at*;generalize ja wi r.F[i].C=K at*;generalize Gd K=hash at*;refine Qc zb ycn ?_;refine⟨i,rfl,J _ (zm b) ?_⟩;refine⟨l _ ⟨O,⟨⟨O,?_⟩,O⟩⟩,O⟩
 all_goals
  refine hsum _ ?_;refine⟨ψ,?_⟩;refine Af (ie:=ti12) (rows':=[Ac hash]) k ?_ ?_ ⟨?_,?_⟩ (λv2 st2 j=>?_)
  .rfl
  .rfl
  .simp only[zj,Fao,ti12];omega
  .simp only[zj,Fao];omega
  have g:App 1 Store.empty v2 (rws Ac (ki a (r.F.take (i+1)))) st2:=by rw[U];unfold rws at j⊢;rw[Fa8];exact j
  have fin:∀D:Bool,D=(z&&(hash==r.F[i].hash))->LV.le (.av (V.bool D)) (.av (V.bool (vi a (r.F.take (i+1))))):=λD e=>by rw[T,e];exact Y
  refine zg (λB=>?_) (λB=>?_)
  .refine⟨i,rfl,J _ (zm b) ?_⟩;refine Qd ?_;exact⟨(i+1,v2),(show Γ r.F-(i+1)<Γ r.F-i by omega),⟨b,g⟩,⟨Y,Y,fin _ (by rw[B];rfl),Y,Y,O⟩,⟨rfl,by dsimp only;rw[I];rfl,O⟩⟩
  .refine Qd ?_;exact⟨(i+1,v2),(show Γ r.F-(i+1)<Γ r.F-i by omega),⟨b,g⟩,⟨Y,Y,fin _ (by rw[B];rfl),Y,Y,O⟩,⟨rfl,by dsimp only;rw[I];rfl,O⟩⟩
def ygw(r:Rep)(d:r.fits)(a:Dh r)(b:Store)(R:Ja)(h:R (.tup [lst 1 Ac (ki (j2 r.G r.P) r.F),V.bool (vi (j2 r.G r.P) r.F)]) b):Jb 30 [.agg (xy r)] b R:=
 Gn (ygx r d a) b R λv c=>c▸h
def ygv(r:Rep)(e:r.fits)(a:Store)(R:Ja)(b:¬Dh r->R (.tup [lst 1 Ac [],V.bool false,int 1]) a)(h:Dh r->R (.tup [lst 1 Ac (ki (j2 r.G r.P) r.F),V.bool (vi (j2 r.G r.P) r.F),int 0]) a):Jb 27 [.agg (xy r)] a R:=
 Gn (zbb r e) a R λv d=>by
  rcases d with⟨c,rfl⟩|⟨c,rfl⟩
  .exact b c
  .exact h c
theorem R1(f:Frm):(xc f).length=3:=rfl
def ypv(f:Frm):∀y∈xc f,y.one=true:=by intro y a;simp[xc]at a;rcases a with rfl|rfl|rfl<;>rfl
def Nl(r:Rep)(v:AV):List AV:=[int r.P,int r.G.W,int r.G.H,yn r.G.T,v]
def yik{g:Store}{r:Rep}{v:AV}(h:RowsO 3 xc g v r.F){d M:BB}{W:World}(sto:StoreOK g d M W){x:Value}(a:VRel W (λb o=>M b o\/d b o) (.agg (Nl r v)) x):
  VRel W (λb o=>(M b o\/d b o)/\g.obj b=Θ) (.agg (xy r)) x:=by
 cases a with
 |agg _ c j f=>
  refine .agg _ c j λi x y a e=>?_
  match i with
  |0=>simp only[xy,Fam,Fak]at a;subst a;exact qq (f 0 _ y rfl e)
  |1=>simp only[xy,Fap,Fam,Fak]at a;subst a;exact qq (f 1 _ y rfl e)
  |2=>simp only[xy,Fap,Fam,Fak]at a;subst a;exact qq (f 2 _ y rfl e)
  |3=>simp only[xy,Fap,Fam,Fak]at a;subst a;exact qq (f 3 _ y rfl e)
  |4=>simp only[xy,Fap,Fam,Fak]at a;subst a;exact RowsQ.borrowL R1 ypv (.inl h) sto (f 4 _ y rfl e)
  |i+5=>simp[xy]at a
def zbc{S:Store}{r:Rep}{v:AV}(k:RowsO 3 xc S v r.F)(l:r.fits)(d:Dh r)(R:Ja)(h:R (.tup [.any,V.bool (vi (j2 r.G r.P) r.F),int 0]) S):Jb 27 [.agg (Nl r v)] S R:=
 ACalls.read (ys:=[.agg (xy r)]) (Q:=λx=>x=.tup [.any,V.bool (vi (j2 r.G r.P) r.F),int 0]) (λz M W C sto b=>by
  obtain⟨x,rfl,p⟩:=Lq b;exact Reads.cons (yik k sto p) Reads.nil) ((zbb r l).post (Store.Le.refl _) λx t b=>by
   obtain⟨_,rfl⟩:=b.resolve_left λo=>o.1 d;exact⟨.tup [.any,V.bool (vi (j2 r.G r.P) r.F),int 0],t,AV.le_tupL ⟨λ_ _ _ _=>.any _,Tt,Tt,O⟩,Store.Le.refl _,rfl⟩) (λx b=>by
   subst b;intro w T B D y j;cases j with
   |tup _ c n g=>
    refine .tup _ c n λi a u e f=>?_
    match i with
    |0=>cases e;exact .any _
    |1=>cases e;exact Ht _ _ _ _ _ _ (g 1 _ u rfl f)
    |2=>cases e;exact Ht _ _ _ _ _ _ (g 2 _ u rfl f)
    |i+3=>simp at e) (λx b=>b▸h)
def ys2(l:List Cmd)(hl:Γ l<=1000000000000)(hf:∀x∈l,Cmd.fits x)(st:Store)(R:Ja)(h:R (lst 10 yg l) st):Jb 92 [lst 10 yg l] st R:=by
 refine Qy 20 func92 ?_;refine AWp.loop (σ:=Nat×AV) ⟨λs=>[(0,.av (lst 10 yg l)),(3,.av s.2),(4,.av (int s.1))],λ_=>[],λs st'=>s.1<=Γ l/\App 10 st s.2 (rws yg (l.take s.1)) st',λs=>Γ l-s.1⟩ zb ?_ ?_
 .exact⟨(0,_),O,⟨Fae _,App.start 10 st⟩,⟨Y,Y,Y,O⟩,O⟩
 .rintro⟨i,v⟩ st' ⟨f,d⟩;simp only at f;refine zg (λe=>?_) (λe=>?_)
  .have a:i<Γ l:=ql e;refine⟨i,rfl,J _ (zm a) ?_⟩;refine ys3 l[i] (hf _ (Faa a)) st' _ ?_;refine⟨ψ,?_⟩;refine Af (ie:=ti66) (rows':=[yg l[i]]) d ?_ ?_ ⟨?_,?_⟩ (λv2 st2 c=>?_)
   .rfl
   .rfl
   .simp[zj,ti66];omega
   .simp[zj];omega
   .refine⟨⟨Z,Z⟩,?_⟩;refine⟨(i+1,v2),?_,⟨a,?_⟩,Qbt,O⟩
    .show Γ l-(i+1)<Γ l-i;omega
    .rw[<-Vw a];exact c
  .have b:i=Γ l:=qr e f;subst b;refine⟨_,st,AV.le_trans d.le ?_,d.has,h⟩;rw[Fal];exact Tt
def ys1(f:Frm)(hf:f.fits)(st:Store)(R:Ja)(h:R (.agg (xc f)) st):Jb 155 [.agg (xc f)] st R:=by refine Qy 10 func155 ?_;refine ys2 f.C hf.1 hf.2 _ _ ?_;exact ret h
def ys0(l:List Frm)(hl:Γ l<=1000000)(hf:∀f∈l,f.fits)(R:Ja)(h:∀v N,RowsO 3 xc N v l->R v N):Jb 87 [lst 3 xc l] Store.empty R:=by
 refine Qy 20 func87 ?_;refine AWp.loop (σ:=Nat×AV×Store) ⟨λs=>[(0,.av (lst 3 xc l)),(3,.av s.2.1),(4,.av (int s.1))],λ_=>[],λs c=>s.1<=Γ l/\c=s.2.2/\RowsO 3 xc s.2.2 s.2.1 (l.take s.1),λs=>Γ l-s.1⟩ zb ?_ ?_
 .exact⟨(0,_,Store.empty),O,⟨Fae _,rfl,.inl ⟨rfl,rfl⟩⟩,⟨Y,Y,Y,O⟩,O⟩
 rintro⟨i,v,N⟩ c ⟨k,rfl,d⟩;dsimp only at k d⊢;refine zg (λg=>?_) (λg=>?_)
 .have a:i<Γ l:=ql g;refine⟨i,rfl,J _ (zm a) ?_⟩;refine ys1 l[i] (hf _ (Faa a)) _ _ ?_;refine⟨ψ,?_⟩;refine O3 (ie:=ti97) rfl (λ_=>rfl) ψ d l[i] rfl θd (λb j L t p o n=>?_);refine⟨⟨Z,Z⟩,?_⟩;refine⟨(i+1,_,_),(show Γ l-(i+1)<Γ l-i by omega),⟨a,rfl,?_⟩,⟨Y,Y,Y,O⟩,O⟩;dsimp only;rw[Fab a];exact .inr ⟨b,j,L,rfl,zd _ _ _,p,o,n⟩
 .have e:i=Γ l:=qr g k;subst e;rw[Fal]at d;exact ret (h _ _ d)
def ysy(r:Rep)(c:r.fits)(hl:Γ r.F<=1000000)(R:Ja)(h:∀v N,RowsO 3 xc N v r.F->R (.agg (Nl r v)) N):Jb 32 [.agg (xy r)] Store.empty R:=by
 refine Qy 14 func32 ?_;refine cu r.G c.1 _ _ ?_;refine ys0 r.F hl c.2.2 _ (λv N d=>?_);rcases d with⟨rfl,e⟩|⟨b,a,L,rfl,q⟩
 .exact ret (h _ _ (.inl ⟨rfl,e⟩))
 .exact ret (h _ _ (.inr ⟨b,a,L,rfl,q⟩))
end Go.Proofs
