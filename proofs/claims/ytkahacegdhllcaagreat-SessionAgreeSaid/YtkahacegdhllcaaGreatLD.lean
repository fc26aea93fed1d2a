/- Ground of laws of thronglaw30: contracts and plain lemmas; no condition beyond the row's own. -/
import Derived.Test.YtkahacegdhllcaaGreatLC
import Derived.Test.YtkahacegdhllcaaGreatLB
set_option linter.unusedSimpArgs false
set_option linter.unusedVariables false
set_option linter.defProp false
namespace Go.Proofs
open Go Go.V
set_option maxRecDepth 20000
set_option maxHeartbeats 4000000
section
variable {st0 st:Store} {v:AV}
def tj(st:Store)(R:Ja)(h:R (u64 14695981039346656037) st):Jb 47 [] st R:=by refine Qy 1 Tryz.func47 ?_;exact⟨_,st,Tt,Store.Has.refl st,h⟩
def zhp(n:Int)(st0 st:Store)(v:AV)(rows:List (List AV))(ha:App 1 st0 v rows st)(hr:rows.length<=100000000000000)(hn:n<=9223372036854775807)(R:Ja)
  (h:∀v' st',App 1 st0 v' (rows++rowsB (q9 n)) st'->R v' st'):Jb 81 [v,int n] st R:=by
 refine Qy 20 Tryz.func81 ?_;refine AWp.loop (σ:=AV×Int×List (List AV)) ⟨λs=>[(0,.av s.1),(1,.av (int s.2.1))],λ_=>[],λs st'=>App 1 st0 s.1 s.2.2 st'/\s.2.2++rowsB (q9 s.2.1)=rows++rowsB (q9 n),λs=>s.2.1.toNat⟩ zb ?_ ?_
 ·exact⟨(v,n,rows),Tv,⟨ha,rfl⟩,⟨Tq,Tq,Tv⟩,Tv⟩
 ·rintro⟨v,m,rs⟩ st ⟨ha,heq⟩;simp only at ha heq;have hrs:rs.length<=rows.length+9:=by
   have h1:=congrArg List.length heq;simp only[Fab,zj]at h1;have:=Cx hn;omega
  refine zk (λh1=>?_) (λh1=>?_)
  ·have h1:128<=m:=by simpa using h1
   refine⟨ψ,vq (ie:=ti5) (rows':=[[.s (.int .u8 (Au .or .u8 (IntKind.u8.wrap m) 128))]]) ha ?_ ?_ ⟨?_,?_⟩ (λv2 st2 ha2=>?_)⟩
   ·rfl
   ·rfl
   ·simp[ti5];omega
   ·simp;omega
   ·refine⟨ψ,⟨(v2,m.fdiv (2^(min (7:Int).toNat IntKind.i64.bits)),_),?_,⟨ha2,?_⟩,⟨Tq,Tq,Tv⟩,Tv⟩⟩
    ·show(m.fdiv (2^(min (7:Int).toNat IntKind.i64.bits))).toNat<m.toNat;rw[um];omega
    ·show(rs++_)++rowsB (q9 (m.fdiv (2^(min (7:Int).toNat IntKind.i64.bits))))=_;rw[um,yec,<-heq,yc9 h1,Fat];rfl
  ·have h1:m<128:=by simpa using h1
   refine⟨ψ,vq (ie:=ti5) (rows':=[[.s (.int .u8 (IntKind.u8.wrap m))]]) ha ?_ ?_ ⟨?_,?_⟩ (λv2 st2 ha2=>?_)⟩
   ·rfl
   ·rfl
   ·simp[ti5];omega
   ·simp;omega
   ·refine⟨_,st2,Tt,Store.Has.refl st2,h _ _ ?_⟩;rw[<-heq,yc8 h1];rw[lf]at ha2;exact ha2
def Mp(n:Int){bs:List UInt8}(ha:App 1 st0 v (rowsB bs) st)(hr:bs.length<=100000000000000)(hn:n<=9223372036854775807){R:Ja}
  (h:∀v' st',App 1 st0 v' (rowsB (bs++q9 n)) st'->R v' st'):Jb 81 [v,int n] st R:=
 zhp n st0 st v _ ha (by rw[zj];exact hr) hn R λv' st' h'=>h v' st' (by rw[Ie]at h';exact h')
def Rj{n:Nat}{G W:List Nat}{x:LV}{bs l:List UInt8}{K:Ja}(ha:App 1 st0 v (rowsB bs) st)(hx:kb 1 x=some (rowsB l))(hr:bs.length+l.length<=100000000000010)
  (h:∀v' st',App 1 st0 v' (rowsB (bs++l)) st'->K v' st'):appendK Tryz.prog (cfg n G W) st 5 (.av v) x K:=by
 refine vq (ie:=ti5) (rows':=rowsB l) ha ?_ hx ⟨?_,?_⟩ (λv2 st2 ha2=>?_)
 ·rfl
 ·simp[zj,ti5];omega
 ·simp[zj];omega
 ·rw[Ie]at ha2;exact h _ _ ha2
end
theorem zbw(a:Int):j5 [a]=q9 a:=by simp[j5]
def yjz(s:Int)(l:List UInt8)(hl:l.length<=1000000000000)(st:Store)(R:Ja)(h:R (u64 (F0 s l)) st):Jb 46 [u64 s,qx l] st R:=by
 refine Qy 20 Tryz.func46 ?_
 refine AWp.loop (σ:=Nat) ⟨λi=>[(0,.av (u64 (F0 s (l.take i)))),(7,.av (qx l)),(8,.av (int l.length)),(9,.av (int (i:Nat)))],λ_=>[],
  λi st'=>i<=l.length/\st'=st,λi=>l.length-i⟩ zb ?_ ?_
 ·refine⟨0,Tv,⟨Fae _,rfl⟩,⟨Tq,Tq,?_,Tq,Tv⟩,Tv⟩;rw[<-zj (f:=u8C) l];exact Tq
 ·rintro i st' ⟨hi,rfl⟩;refine zk (λh1=>?_) (λh1=>?_)
  ·have hlt:i<l.length:=by simpa using h1
   refine⟨i,rfl,za _ (zr hlt) ⟨⟨θ,θ⟩,⟨i+1,?_,⟨hlt,rfl⟩,⟨?_,Tq,Tq,Tq,Tv⟩,Tv⟩⟩⟩
   ·show l.length-(i+1)<l.length-i;omega
   ·rw[yjy hlt];exact Tq
  ·have hge:i=l.length:=by
    have:¬i<l.length:=θo;omega
   subst hge;refine⟨_,st',Tt,Store.Has.refl st',?_⟩;rw[<-Faj (l:=l)]at h;exact h
def zd8(s:Int){l:List UInt8}{v:AV}(hv:AV.le v (qx l))(hl:l.length<=1000000000000){st:Store}{R:Ja}(h:R (u64 (F0 s l)) st):Jb 46 [u64 s,v] st R:=
 ACalls.le (ys:=[u64 s,qx l]) ⟨Tt,hv,Tv⟩ (yjz s l hl st R h)
def yj0(s:Int)(st:Store)(R:Ja)(h:R (qx (Hy s)) st):Jb 45 [u64 s] st R:=by
 refine Qy 14 Tryz.func45 ?_
 refine AWp.loop (σ:=Nat×AV) ⟨λx=>[(0,.av (u64 (s/256^x.1))),(2,.av x.2),(3,.av (int (x.1:Nat)))],λ_=>[],
  λx st'=>x.1<=8/\App 1 st x.2 (rowsB ((Hy s).take x.1)) st',λx=>8-x.1⟩ zb ?_ ?_
 ·refine⟨(0,_),Tv,⟨Fae _,App.start 1 st⟩,⟨?_,Tq,Tq,Tv⟩,Tv⟩;show LV.le (.av (u64 s)) (.av (u64 (s/256^0)));rw[Int.pow_zero,Int.ediv_one];exact Tq
 ·rintro⟨i,v⟩ st' ⟨hi,ha⟩;simp only at hi ha;refine zk (λh1=>?_) (λh1=>?_)
  ·have hlt:i<8:=by simp at h1;omega
   refine⟨ψ,vq (ie:=ti5) (rows':=[[.s (.int .u8 (IntKind.u8.wrap (s/256^i)))]]) ha ?_ ?_ ⟨?_,?_⟩ (λv2 st2 ha2=>?_)⟩
   ·rfl
   ·rfl
   ·simp[zj,ti5];omega
   ·simp[zj];omega
   ·refine⟨ψ,⟨⟨θ,θ⟩,⟨(i+1,v2),?_,⟨hlt,?_⟩,⟨?_,Tq,Tq,Tv⟩,Tv⟩⟩⟩
    ·show 8-(i+1)<8-i;omega
    ·show App 1 st v2 (rws u8C ((Hy s).take (i+1))) st2;rw[<-ylg s hlt,<-Ie];rw[lf]at ha2;exact ha2
    ·show LV.le (.av (u64 ((s/256^i).fdiv (2^(min (8:Int).toNat IntKind.u64.bits))))) _;rw[zwx];exact Tq
  ·have hge:i=8:=by simp at h1;omega
   subst hge;refine⟨_,st,AV.le_trans ha.le ?_,ha.has,h⟩;rw[Fcm (by rw[m9];exact Fai _)];exact Tt
def zwd(st:Store)(R:Ja)(h:R (u64 Nd) st):Jb 47 [] st R:=tj st R h
def yco(l:List UInt8)(hl:l.length<=1048576)(st:Store)(R:Ja)(h:R (.tup [qx (q9 l.length++l),int 0]) st):Jb 212 [qx l] st R:=by
 refine Qy 12 Tryz.func212 ?_;refine bcd (λh1=>?_) (λh1=>?_)
 ·rw[zj]at h1;omega
 refine Mp (bs:=[]) _ (App.start 1 st) φ θh (λv st1 ha=>?_);rw[zj]at ha;have:=Cx (n:=(l.length:Int)) θ;exact Rj ha (l:=l) ξ χ (λv2 st2 ha2=>Ow h ha2.has (AV.le_tupL ⟨ha2.le,Tt,Tv⟩))
def yhh(n:Int)(hn:I62 n)(st:Store)(R:Ja)(h:R (.tup [qx (Db n),int 0]) st):Jb 213 [int n] st R:=by
 refine Qy 21 Tryz.func213 ?_;unfold I62 at hn;have fin:∀{v:AV} {st2:Store} {l:List UInt8},App 1 st v (rowsB ([]++l)) st2->l=Db n->∃r st',AV.le (.tup [v,int 0]) r/\st2.Has st'/\R r st':=by rintro v st2 l ha rfl;exact Ow h ha.has (AV.le_tupL ⟨ha.le,Tt,Tv⟩)
 refine bcd (λh1=>?_) (λh1=>?_)
 ·exact absurd h1 (Int.not_lt.2 (Int.le_of_lt hn.1))
 refine bcd (λh1=>absurd h1 (Int.not_le.2 hn.2)) (λh1=>bcd (λh2=>?_) (λh2=>?_))
 ·have r1:yq ((-2:Int)*n):=⟨θ,θ⟩
  have r2:yq ((-2:Int)*n-1):=⟨θ,θ⟩
  exact⟨r1,r2,Mp (bs:=[]) ((-2:Int)*n-1) (App.start 1 st) φ θ (λv st1 ha=>fin ha (by unfold Db;rw[if_pos h2]))⟩
 ·exact⟨⟨θ,θ⟩,Mp (bs:=[]) _ (App.start 1 st) φ θ (λv st1 ha=>fin ha (by unfold Db;rw[if_neg h2]))⟩
def ygn(g:Gnd)(hg:zv g)(st:Store)(R:Ja)(h:R (qx (Fb g)) st):Jb 40 [.agg (zw g)] st R:=by
 refine Qa (c:=cfg 21 [4] []) zb Tryz.func40 ?_;obtain⟨h1,h2,h3,_⟩:=hg;have hm:=Sd h1 h2;have hw:=Cx (n:=g.W) θ;have hh:=Cx (n:=g.H) θ;refine Qc zb zxy ⟨⟨ψ,λb hb=>⟨Qe,⟨optR (optR (optR (za _ (Kl _ _ _) ⟨Qe,⟨Mp (bs:=[84,71]) _ (pi hb θf) φ θ (λv st1 ha=>⟨Qe,⟨Mp _ ha χ θ (λv st1 ha=>⟨Qe,⟨Rj ha (l:=g.T) ξ χ (λv st1 ha=>⟨Qe,Qbb (tj _ _ ?_)⟩),Tv⟩⟩),Tv⟩⟩),Tv⟩⟩))),Tv⟩⟩⟩,Tv⟩;have e:([84,71]++q9 g.W++q9 g.H++g.T)=Ki g:=rfl;rw[e]at ha;have hl:(Ki g).length<=20000:=by simp only[<-e,Fab,Fbg,Fdi];omega
 exact zd8 _ ha.le θ (yj0 _ _ _ (Rj ha (l:=Hy (F0 Nd (Ki g))) ξ (by rw[m9];omega) (λv st1 ha=>Ow h ha.has ha.le)))
def Qao{p:Prop}(h:p:=by simp only[Fab,Fbg,Fdi];omega):p:=h
def Qap{p:Prop}(h:p:=by simp only[Fbo,forall_eq];rw[zj];unfold I64;omega):p:=h
def Qaq{p:Prop}(h:p:=by rw[Fab];omega):p:=h
def M4(l:List Int)(hl:l.length<=64)(hn:∀n∈l,I64 n){p:Nat}{st0 st:Store}{v:AV}{bs:List UInt8}(ha:App 1 (st0.sO p (.cells [v])) v (rowsB bs) st)(hr:bs.length<=90000000000000){R:Ja}
  (h:∀v' st',App 1 (st0.sO p (.cells [v'])) v' (rowsB (bs++j5 l)) st'->R (.tup []) st'):Jb 211 [yd l,.s (.pointer (some ⟨p,0,none⟩))] st R:=by
 refine Qy 15 Tryz.func211 ?_;refine AWp.loop (σ:=Nat×AV) ⟨λs=>[(1,.av (.s (.pointer (some ⟨p,0,none⟩)))),(5,.av (yd l)),(6,.av (int l.length)),(7,.av (int s.1))],λ_=>[],λs st'=>s.1<=l.length/\App 1 (st0.sO p (.cells [s.2])) s.2 (rowsB (bs++j5 (l.take s.1))) st',λs=>l.length-s.1⟩ zb ?_ ?_
 ·refine⟨(0,v),Tv,⟨Fae _,by simpa [j5]using ha⟩,⟨Tq,Tq,?_,Tq,Tv⟩,Tv⟩;rw[<-zj (f:=zn) l];exact Tq
 ·rintro⟨i,v⟩ st' ⟨hi,ha⟩;simp only at hi ha;refine bcd (λh1=>?_) (λh1=>?_)
  ·have hlt:i<l.length:=θ;refine⟨i,rfl,za _ (zr hlt) (za _ ha.read ?_)⟩;have hlen:=Kw (l:=l.take i) λn hn'=>(hn n (Fck hn')).2;rw[Fah]at hlen;refine Mp _ ha χ (hn _ (Faa hlt)).2 (λv st1 ha=>Bc ha.cells ha.one ξ ha.read (Fai _) ⟨⟨θ,θ⟩,⟨(i+1,v),?_,⟨hlt,?_⟩,Qax,Tv⟩⟩)
   ·show l.length-(i+1)<l.length-i;omega
   ·rw[yeo hlt,<-Fat];exact ha.sO
  ·obtain rfl:i=l.length:=θ;rw[Faj]at ha;exact ret (h _ _ ha)
theorem mn{α:Type}(f:α->List UInt8){l:List α}{i:Nat}(h:i<l.length):(l.take (i+1)).flatMap f=(l.take i).flatMap f++f l[i]:=by rw[Fad h,List.flatMap_append,List.flatMap_singleton]
def Ng{α:Type}(f:α->List UInt8)(n:Nat):∀l:List α,(∀x∈l,(f x).length<=n)->(l.flatMap f).length<=n*l.length:=by
 intro l;induction l with
 |nil=>intro _;simp
 |cons a l ih=>
  intro h;have h1:=h a (Fa1 ..);have h2:=ih λx hx=>h x (Fau _ hx);rw[List.flatMap_cons,Fab,Fbg,Nat.mul_add];omega
def Aw{n:Int}(h:xe n):I64 n:=by unfold xe at h;unfold I64;omega
def oz{b:Bld}(h:ou b):(Hc b).length<=54:=by
 unfold Hc;refine Fb6 (Kw λn hn=>?_) (show 9*6<=54 by decide);obtain⟨h1,h2,h3,h4,h5,h6⟩:=h;simp at hn;rcases hn with rfl|rfl|rfl|rfl|rfl|rfl
 ·exact h1.2
 ·exact h2.2
 ·exact h3.2
 ·exact h4.2
 ·exact h5.2
 ·exact h6.2
def ry{u:Unt}(h:rx u):(Bx u).length<=90:=by
 obtain⟨h1,h2,h3,h4,h5,h6,h7,h8,h9,h10⟩:=h;have a1:(j5 [u.id,u.owner,u.kind]).length<=9*3:=Kw λn hn=>by
  simp at hn;rcases hn with rfl|rfl|rfl
  ·exact h1.2
  ·exact h2.2
  ·exact h3.2
 have a2:(j5 [u.goal+1,u.next+1,u.stuck,u.inn,u.state]).length<=9*5:=Kw λn hn=>by
  simp at hn;rcases hn with rfl|rfl|rfl|rfl|rfl
  ·exact h6.2
  ·exact h7.2
  ·exact h8.2
  ·exact h9.2
  ·exact h10.2
 have a3:=V9 h4;have a4:=V9 h5;unfold Bx;simp only[Fab];omega
def yh6(w:Wld)(hw:Rs w)(st:Store)(R:Ja)(h:∀v st',App 1 st v (rowsB (H2 w)) st'->R v st'):Jb 177 [.agg (zt w)] st R:=by
 obtain⟨n1,n2,n3,hg,⟨hB,hbn⟩,hU,hun⟩:=hw;have hgl:=(zd0 hg).2;have hgp:(q9 (Fb w.G).length).length<=9:=Cx θ;have l0:(j5 [w.tick,w.players,w.next]).length<=9*3:=Kw λn hn=>by
  simp at hn;rcases hn with rfl|rfl|rfl
  ·exact n1.2
  ·exact n2.2
  ·exact n3.2
 refine Qb (c:=cfg 126 [3,15] []) zb Tryz.func177 (AWp.seq (AWp.of_vc zb ?_));refine AWp.seq (AWp.of_vc zb ?_);refine⟨ψ,λb hb=>optR (optR (optR (za _ (Kl _ _ _) (λp hp=>?_))))⟩;have ha0:=(pi (k:=1) (rows:=rowsB [84,87]) hb θf).boxed hp (x:=.cells [.lst 1 (rowsB [84,87]) (some b)]);have h0:=(pi (k:=1) (rows:=rowsB [84,87]) hb θf).fresh hp;refine Bc (i:=ti22) ha0.cells ha0.one ξ (zd _ _ _) (Fai _) ?_;rw[yu];have ha0:App 1 (st.sO p (.cells [.lst 1 (rowsB [84,87]) (some b)])) (.lst 1 (rowsB [84,87]) (some b)) (rowsB [84,87]) ((st.sT b (some 2)).sO p (.cells [.lst 1 (rowsB [84,87]) (some b)])):=ha0;show Bn _ _ _ _ _ _ ((st.sT b (some 2)).sO p (.cells [.lst 1 (rowsB [84,87]) (some b)]));generalize(AV.lst 1 (rowsB [84,87]) (some b))=v0 at ha0;generalize(st.sT b (some 2)).sO p (.cells [v0])=st0 at ha0;refine AWp.seq (AWp.of_vc zb (AWp.seq (AWp.of_vc zb ⟨ψ,M4 [w.tick,w.players,w.next] φ (by simp;exact⟨Aw n1,Aw n2,Aw n3⟩) ha0 φ (λv1 st1 ha1=>AWp.seq (AWp.of_vc zb (ygn w.G hg _ _ (yco (Fb w.G) θ _ _ (AWp.seq (AWp.of_vc zb ?_))))))⟩)));first|refine za _ (ha1.read) ?_|refine optR (za _ (ha1.read) ?_)|refine optR (optR (za _ (ha1.read) ?_))
 refine Rj ha1 (l:=q9 (Fb w.G).length++Fb w.G) ξ Qao (λv2 st2 ha2=>Bc (i:=ti22) ha2.cells ha2.one ξ ha2.read (Fai _) ?_);have ha2:=ha2.sO (y:=.cells [v2]);refine AWp.seq (AWp.of_vc zb ⟨ψ,?_⟩);have p1:(q9 (w.B.length:Int)).length<=9:=Cx θ;refine M4 [((rws zl w.B).length:Int)] φ Qap ha2 Qao (λv3 st3 ha3=>?_);rw[zj,zbw]at ha3;generalize hpre:[84,87]++j5 [w.tick,w.players,w.next]++(q9 (Fb w.G).length++Fb w.G)++q9 (w.B.length:Int)=pre at ha3;have hprel:pre.length<=17000:=by rw[<-hpre];simp only[Fab,Fbg,Fdi];omega
 refine AWp.meetA (σ:=AV) ⟨λv=>[(1,.bx 1 0),(3,.av (ptr p)),(4,.av (.clos 211 [ptr p]))],λ_=>[(1,zt w)],λv st'=>App 1 (st.sO p (.cells [v])) v (rowsB (pre++w.B.flatMap Hc)) st'⟩ ?_ ?_
 ·refine AWp.seq (AWp.of_vc zb (AWp.of_vc zb ?_))
  refine AWp.loop (σ:=Nat×AV) ⟨λx=>[(1,.bx 1 0),(3,.av (ptr p)),(4,.av (.clos 211 [ptr p])),(44,.av (lst 6 zl w.B)),(45,.av (int (w.B.length:Nat))),(46,.av (int (x.1:Nat)))],λ_=>[(1,zt w)],
   λx st'=>x.1<=w.B.length/\App 1 (st.sO p (.cells [x.2])) x.2 (rowsB (pre++(w.B.take x.1).flatMap Hc)) st',λx=>w.B.length-x.1⟩ zb ?_ ?_
  ·refine⟨(0,v3),Tv,⟨Fae _,by simpa using ha3⟩,⟨Tq,Tq,Tq,Tq,?_,Tq,Tv⟩,⟨rfl,Tv⟩⟩;rw[<-zj (f:=zl) w.B];exact Tq
  rintro⟨i,v⟩ st' ⟨hi,ha⟩;dsimp only at hi ha⊢;refine bcd (λh1=>?_) (λh1=>?_);rotate_left
  ·have:i=w.B.length:=θ;subst this;rw[Faj]at ha;exact⟨v,ha,Qax,⟨rfl,Tv⟩⟩
  have hlt:i<w.B.length:=θ;obtain⟨b1,b2,b3,b4,b5,b6⟩:=hbn _ (Faa hlt);have hfl:=Ng Hc 54 (w.B.take i) λx hx=>oz (hbn x (Fck hx));rw[Fah]at hfl;refine⟨i,rfl,za _ (zr hlt) ⟨ψ,M4 [w.B[i].id,w.B[i].owner,w.B[i].x,w.B[i].y,w.B[i].w,w.B[i].h] φ (by simp;exact⟨Aw b1,Aw b2,Aw b3,Aw b4,Aw b5,Aw b6⟩) ha Qaq (λv4 st4 ha4=>Qd ⟨(i+1,v4),?_,⟨ζ,?_⟩,Qax,⟨rfl,Tv⟩⟩)⟩⟩
  ·show w.B.length-(i+1)<w.B.length-i;omega
  ·dsimp only;rw[mn Hc hlt,<-Fat];exact ha4
 rintro v5 st5 ha5;dsimp only at ha5⊢;have hfl:=Ng Hc 54 w.B λx hx=>oz (hbn x hx);have p2:(q9 (w.U.length:Int)).length<=9:=Cx θ;refine AWp.seq (AWp.of_vc zb ⟨ψ,M4 [((rws zm w.U).length:Int)] φ Qap ha5 Qaq (λv6 st6 ha6=>?_)⟩);rw[zj,zbw]at ha6;generalize hpre2:pre++w.B.flatMap Hc++q9 (w.U.length:Int)=pre2 at ha6;have hpre2l:pre2.length<=40000:=by rw[<-hpre2];simp only[Fab];omega
 refine AWp.meetA (σ:=AV) ⟨λv=>[(3,.av (ptr p))],λ_=>[],λv st'=>App 1 (st.sO p (.cells [v])) v (rowsB (pre2++w.U.flatMap Bx)) st'⟩ ?_ ?_
 ·refine AWp.seq (AWp.of_vc zb (AWp.of_vc zb ?_))
  refine AWp.loop (σ:=Nat×AV) ⟨λx=>[(1,.bx 1 0),(3,.av (ptr p)),(4,.av (.clos 211 [ptr p])),(73,.av (lst 10 zm w.U)),(74,.av (int (w.U.length:Nat))),(75,.av (int (x.1:Nat)))],λ_=>[(1,zt w)],
   λx st'=>x.1<=w.U.length/\App 1 (st.sO p (.cells [x.2])) x.2 (rowsB (pre2++(w.U.take x.1).flatMap Bx)) st',λx=>w.U.length-x.1⟩ zb ?_ ?_
  ·refine⟨(0,v6),Tv,⟨Fae _,by simpa using ha6⟩,⟨Tq,Tq,Tq,Tq,?_,Tq,Tv⟩,⟨rfl,Tv⟩⟩;rw[<-zj (f:=zm) w.U];exact Tq
  rintro⟨i,v⟩ st' ⟨hi,ha⟩;dsimp only at hi ha⊢;refine bcd (λh1=>?_) (λh1=>?_);rotate_left
  ·have:i=w.U.length:=θ;subst this;rw[Faj]at ha;exact⟨v,ha,⟨Tq,Tv⟩,Tv⟩
  have hlt:i<w.U.length:=θ;obtain⟨u1,u2,u3,u4,u5,u6,u7,u8,u9,u10⟩:=hun _ (Faa hlt);have hfl:=Ng Bx 90 (w.U.take i) λx hx=>ry (hun x (Fck hx));rw[Fah]at hfl;refine⟨i,rfl,za _ (zr hlt) ⟨ψ,?_⟩⟩;have q1:(j5 [w.U[i].id,w.U[i].owner,w.U[i].kind]).length<=9*3:=Kw λn hn=>by
   simp at hn;rcases hn with rfl|rfl|rfl
   ·exact u1.2
   ·exact u2.2
   ·exact u3.2
  refine M4 [w.U[i].id,w.U[i].owner,w.U[i].kind] φ (by simp;exact⟨Aw u1,Aw u2,Aw u3⟩) ha Qaq (λv7 st7 ha7=>⟨ψ,?_⟩);obtain⟨pp,hpp,hpl,hall⟩:∃pp:List Int,[w.U[i].pos.1,w.U[i].pos.2]=pp/\pp.length=2/\∀x∈pp,I62 x:=⟨_,rfl,rfl,by simp;exact⟨u4,u5⟩⟩
  refine AWp.loop (σ:=Nat×AV) ⟨λx=>[(1,.bx 1 0),(3,.av (ptr p)),(4,.av (.clos 211 [ptr p])),(73,.av (lst 10 zm w.U)),(74,.av (int (w.U.length:Nat))),(75,.av (int (i:Nat))),(10,.bx 10 0),(94,.av (lst 1 zn pp)),(95,.av (int 2)),(96,.av (int (x.1:Nat)))],λ_=>[(1,zt w),(10,zm w.U[i])],
   λx st'=>x.1<=2/\App 1 (st.sO p (.cells [x.2])) x.2 (rowsB (pre2++(w.U.take i).flatMap Bx++j5 [w.U[i].id,w.U[i].owner,w.U[i].kind]++(pp.take x.1).flatMap Db)) st',λx=>2-x.1⟩ zb ?_ ?_
  ·refine⟨(0,v7),Tv,⟨Fae _,by simpa using ha7⟩,⟨Tq,Tq,Tq,Tq,Tq,Tq,Tq,?_,Tq,Tq,Tv⟩,⟨rfl,rfl,Tv⟩⟩;rw[<-hpp];exact Tq
  rintro⟨j,v8⟩ st8 ⟨hj,ha8⟩;dsimp only at hj ha8⊢;have hifl:=Ng Db 9 (pp.take j) λx hx=>by obtain⟨m,hm,rfl⟩:=Faf (Fck hx);exact V9 (hall _ (Faa hm))
  rw[Fah]at hifl;refine bcd (λh2=>?_) (λh2=>?_)
  ·have hj2:j<2:=θ;refine⟨j,rfl,za _ (zr (show j<pp.length by omega)) (yhh pp[j] (hall _ (Faa _)) _ _ ?_)⟩;first|refine za _ (ha8.read) ?_|refine optR (za _ (ha8.read) ?_)|refine optR (optR (za _ (ha8.read) ?_))
   have hz:=V9 (hall pp[j] (Faa _));refine Rj ha8 (l:=Db pp[j]) ξ (by simp only[Fab];omega) (λv9 st9 ha9=>Bc (i:=ti22) ha9.cells ha9.one ξ ha9.read (Fai _) (Qd ⟨(j+1,v9),?_,⟨ζ,?_⟩,Qax,⟨rfl,rfl,Tv⟩⟩))
   ·show 2-(j+1)<2-j;omega
   ·dsimp only;rw[mn Db (show j<pp.length by omega),<-Fat];exact ha9.sO
  ·have:j=2:=θ;subst this;have e2:pp.take 2=pp:=Fcm θ;rw[e2,<-hpp]at ha8;rw[e2,<-hpp]at hifl;refine ze (by unfold xe at u6;omega) (ze (by unfold xe at u7;omega) ⟨ψ,M4 [w.U[i].goal+1,w.U[i].next+1,w.U[i].stuck,w.U[i].inn,w.U[i].state] φ (by simp;exact⟨Aw u6,Aw u7,Aw u8,Aw u9,Aw u10⟩) ha8 (by simp only[Fab];omega) (λv9 st9 ha9=>Qd ⟨(i+1,v9),?_,⟨ζ,?_⟩,Qax,⟨rfl,Tv⟩⟩)⟩)
   ·show w.U.length-(i+1)<w.U.length-i;omega
   ·dsimp only;rw[mn Bx hlt];have e:pre2++(w.U.take i).flatMap Bx++j5 [w.U[i].id,w.U[i].owner,w.U[i].kind]++[w.U[i].pos.1,w.U[i].pos.2].flatMap Db++j5 [w.U[i].goal+1,w.U[i].next+1,w.U[i].stuck,w.U[i].inn,w.U[i].state]=pre2++((w.U.take i).flatMap Bx++Bx w.U[i]):=by
     unfold Bx;simp
    rw[<-e];exact ha9
 rintro v10 st10 ha10;dsimp only at ha10⊢;refine AWp.of_vc zb ?_;first|refine za _ (ha10.read) ?_|refine optR (za _ (ha10.read) ?_)|refine optR (optR (za _ (ha10.read) ?_))
 have e:pre2++w.U.flatMap Bx=H2 w:=by rw[<-hpre2,<-hpre];unfold H2;simp
 rw[e]at ha10;obtain⟨st3,h3,h4⟩:=ha10.dropObj h0;exact Ow (h _ _ h3) h4 (Tt)
end Go.Proofs
namespace Go.Proofs
open Go Go.V
set_option maxRecDepth 20000
set_option maxHeartbeats 4000000
def zhx{w:Wld}(hw:Rs w):(H2 w).length<=500000:=by
 obtain⟨n1,n2,n3,hg,⟨hB,hbn⟩,hU,hun⟩:=hw;have hgl:=(zd0 hg).2;have hgp:(q9 (Fb w.G).length).length<=9:=Cx θ;have l0:(j5 [w.tick,w.players,w.next]).length<=9*3:=Kw λn hn=>by
  simp at hn;rcases hn with rfl|rfl|rfl
  ·exact n1.2
  ·exact n2.2
  ·exact n3.2
 have p1:(q9 (w.B.length:Int)).length<=9:=Cx θ;have p2:(q9 (w.U.length:Int)).length<=9:=Cx θ;have f1:=Ng Hc 54 w.B λx hx=>oz (hbn x hx);have f2:=Ng Bx 90 w.U λx hx=>ry (hun x hx);unfold H2;simp only[Fab,Fbg,Fdi];omega
def yg9(w:Wld)(hw:Rs w)(st:Store)(R:Ja)(h:R (u64 (F0 Nd (H2 w))) st):Jb 137 [.agg (zt w)] st R:=by have hl:=zhx hw;refine Qy 7 Tryz.func137 ?_;refine Qc zb yao ?_;exact⟨zwd _ _ ⟨Qe,⟨yh6 w hw _ _ (λv st' ha=>⟨Tv,⟨zd8 _ ha.le θ ⟨Tv,Qbb (Ow h ha.has (Tt))⟩,Tv⟩⟩),Tv⟩⟩,Tv⟩
end Go.Proofs
namespace Go.Proofs
open Go Go.V
set_option maxRecDepth 20000
set_option maxHeartbeats 4000000
theorem Qar{p:Prop}(h:p:=by rw[ho]):p:=h
def Qas{p:Prop}(h:p:=by rw[ho2,hg1];show Sp _ _;dsimp only;rw[oq,oe];exact h6):p:=h
theorem Qat{p:Prop}(h:p:=by rw[Fam];omega):p:=h
structure One where
 q:Nat
 eb:Nat
 k:Nat
 p:Per
 w:Wld
 h:List Int
 vh:AV
def qv(room:Int)(s hb:Nat)(X:List One)(vp vm vT vW vS vl:AV)(m:List Nte)(log:List Frm)(T:List Int)(W:List Wld)(D:List Bool):List (Store->Prop):=
 [λa=>RowsQ 8 ye a vm m,
  TokR 1 vT (rws zn T),
  TokR 8 vW (rws zt W),
  TokR 1 vS (rws qu D),
  TokR 3 vl (rws jt log),
  Sp (X.map λo=>TokR 1 o.vh (rws yh o.h)),
  xp hb (X.map λo=>o.vh),
  xp s [vp,vm,vT,.s (.slice (some ⟨hb,0,none⟩) X.length X.length),vW,vS,vl],
  TokR 1 vp (X.map λo=>[ptr o.q]),
  Sp (X.map λo=>xp o.q (zo o.p++[ptr o.eb])),
  Sp (X.map λo=>EngR o.eb room o.k o.w)]
def ykw{eb:Nat}{room:Int}{k:Nat}{w:Wld}{S:Store}(hE:EngR eb room k w S)(hp:playW w)(l:List Cmd)(hl:l=[]\/DoC)(hf:∀c∈l,c.fits)(hl2:l.length<=512)(hk:k<=100000000000000000)(R:Ja)
  (h:∀k' S',k'<=k+4096->EngR eb room k' (Dz w l) S'->R (.tup [lst 1 zn (g8 w l),int (g9 w)]) S'):Jb 136 [ptr eb,lst 10 z6 l] S R:=by
 by_cases e:w.tick=1099511627776
 ·obtain⟨e1,e2,e3⟩:=zbv e l;have:=h k S θ (e1.symm▸hE);rw[e2,e3]at this;refine(ykv hE e l (λr S'=>r=.tup [nil,int 10]/\S'=S) ⟨rfl,rfl⟩).post (Store.Le.refl _) ?_;rintro r S' ⟨rfl,rfl⟩;exact⟨_,_,λW T v hv=>hv.tup2 (λx hx=>AV.le_nil 1 _ _ _ hx) λx hx=>hx,Store.Le.refl _,this⟩
 ·obtain⟨e1,e2,e3⟩:=gz e l;rw[e1,e2,e3]at h;have ht:=hp.1.1.1.1.1.2;exact yku hE hp l hl hf hl2 θ hk R λS' h1=>h (k+4096) S' (Fai _) h1
def jg(w:Wld):Int:=F0 Nd (H2 w)
section
variable {room:Int} {s hb:Nat} {X:List One} {vp vm vT vW vS vl:AV} {m:List Nte} {log:List Frm} {T:List Int} {W:List Wld} {D:List Bool} {S:Store}
def Bd(h:Sp (qv room s hb X vp vm vT vW vS vl m log T W D) S):S.obj s=some (.cells [vp,vm,vT,.s (.slice (some ⟨hb,0,none⟩) X.length X.length),vW,vS,vl]):=(h.at 7 rfl).obj
def gb(h:Sp (qv room s hb X vp vm vT vW vS vl m log T W D) S):S.obj hb=some (.cells (X.map λo=>o.vh)):=(h.at 6 rfl).obj
def Gj(h:Sp (qv room s hb X vp vm vT vW vS vl m log T W D) S){i:Nat}(hi:i<X.length):S.obj X[i].q=some (.cells (zo X[i].p++[ptr X[i].eb])):=
 ((h.at 9 rfl).at (P:=xp X[i].q (zo X[i].p++[ptr X[i].eb])) i (by rw[Faq,Fac hi];rfl)).obj
def Ks(h:Sp (qv room s hb X vp vm vT vW vS vl m log T W D) S)(hne:X≠[]):∃t,vp=.lst 1 (X.map λo=>[ptr o.q]) (some t):=by
 obtain⟨a,g,_,_,ht,_⟩:=h.at 8 rfl;rcases ht with⟨e,_⟩|⟨_,t,e,_⟩
 ·exact absurd (Fdu.1 e) hne
 ·exact⟨t,e⟩
end
theorem vg{α β:Type}(f:α->β){l:List α}{i:Nat}(hi:i<l.length):(l.map f)[i]?=some (f l[i]):=by rw[Faq,Fac hi];rfl
theorem map_set_same{α β:Type}(f:α->β){l:List α}{i:Nat}{x:α}(hi:i<l.length)(h:f x=f l[i]):(l.set i x).map f=l.map f:=by
 rw[Fc3,h];refine Fcx φ λj h1 h2=>?_;rw[Fcl];split
 ·rename_i e;subst e;simp
 ·rfl
theorem uc{l:List AV}{i:Nat}{v:AV}(h:i<l.length):zq l (0+i*1) [v]=l.set i v:=by rw[Fba,Feo];unfold zq;rw[List.set_eq_take_append_cons_drop,if_pos h];simp
def cq{x:Int}(h:0<=x/\x<=8388608):I62 x:=by unfold I62;omega
def yf1{w:Wld}(hm:yc w):Rs w:=by
 have hf:=wg hm;obtain⟨⟨⟨⟨h1,h2,h3⟩,⟨hg,hb,hu⟩,hbo⟩,hr,huu⟩,hc,hd⟩:=hm;have hga:=xc hg;refine⟨θa,θa,θa,hg,⟨by have:=hb.1;omega,λb hbm=>?_⟩,θ,λu hum=>?_⟩
 ·obtain⟨⟨a1,a2,a3,a4⟩,⟨b1,b2⟩,_⟩:=hb.2.2.1 b hbm;have:=hg.1;have:=hg.2.1;unfold ou xe;omega
 ·obtain⟨⟨a1,a2,a3⟩,⟨b1,b2,b3⟩,⟨c1,c2⟩,_⟩:=(huu u hum).1;have hp:I62 u.pos.1/\I62 u.pos.2/\xe u.inn:=by
   by_cases h0:u.inn=0
   ·have:=Pt hg (hc u hum h0).1;exact⟨cq θ,cq θ,θa⟩
   ·obtain⟨x,hx,e1,_,_,_,e2,_⟩:=hd u hum h0;rw[e2];have:=(huu x hx).1.1.1;exact⟨cq ψ,cq ψ,θa⟩
  unfold Ca at b1 b2;unfold Gt at a3;refine⟨θa,θa,θa,hp.1,hp.2.1,θa,θa,θa,hp.2.2,θa⟩
def zbb{w:Wld}(h:playW w)(l:List Cmd):playW (Dz w l):=by
 by_cases e:w.tick=1099511627776
 ·rw[(zbv e l).1];exact h
 ·rw[(gz e l).1];have:=h.1.1.1.1.1.2;exact ydu h θ l
section
variable {room:Int} {s hb:Nat} {X:List One} {vp vm vT vW vS vl:AV} {m:List Nte} {log:List Frm} {T:List Int} {W:List Wld} {D:List Bool} {S:Store} {i:Nat} {o:One}
def Ve(hi:i<X.length)(p:Per)(ho:o={X[i]with p:=p})(h:Sp ((qv room s hb X vp vm vT vW vS vl m log T W D).set 9 (Sp ((X.map λo=>xp o.q (zo o.p++[ptr o.eb])).set i (xp o.q (zo o.p++[ptr o.eb]))))) S):Sp (qv room s hb (X.set i o) vp vm vT vW vS vl m log T W D) S:=by unfold qv;rw[map_set_same (λo=>o.vh) hi Qar,map_set_same (λo=>[ptr o.q]) hi Qar,map_set_same (λo=>TokR 1 o.vh (rws yh o.h)) hi Qar,map_set_same (λo=>EngR o.eb room o.k o.w) hi Qar,Fc3,Fak];exact h
def ydj(hi:i<X.length)(k:Nat)(w:Wld)(ho:o={X[i]with k:=k,w:=w})(h:Sp ((qv room s hb X vp vm vT vW vS vl m log T W D).set 10 (Sp ((X.map λo=>EngR o.eb room o.k o.w).set i (EngR o.eb room o.k o.w)))) S):Sp (qv room s hb (X.set i o) vp vm vT vW vS vl m log T W D) S:=by unfold qv;rw[map_set_same (λo=>o.vh) hi Qar,map_set_same (λo=>[ptr o.q]) hi Qar,map_set_same (λo=>TokR 1 o.vh (rws yh o.h)) hi Qar,map_set_same (λo=>xp o.q (zo o.p++[ptr o.eb])) hi Qar,Fc3,Fak];exact h
def za4(hi:i<X.length)(l:List Int)(v:AV)(ho:o={X[i]with h:=l,vh:=v})(h:Sp (((qv room s hb X vp vm vT vW vS vl m log T W D).set 5 (Sp ((X.map λo=>TokR 1 o.vh (rws yh o.h)).set i (TokR 1 o.vh (rws yh o.h))))).set 6 (xp hb ((X.map λo=>o.vh).set i o.vh))) S):Sp (qv room s hb (X.set i o) vp vm vT vW vS vl m log T W D) S:=by unfold qv;rw[map_set_same (λo=>[ptr o.q]) hi Qar,map_set_same (λo=>xp o.q (zo o.p++[ptr o.eb])) hi Qar,map_set_same (λo=>EngR o.eb room o.k o.w) hi Qar,Fc3,Fc3,Fak];exact h
end
def fj(o:One):Prop:=qe o.p/\Bj o.p
noncomputable def Ce(o:One):Wld:=Dz o.w (xl o.p)
def ydp{room:Int}{s hb:Nat}{X:List One}{vp vm vT vW vS vl:AV}{m:List Nte}{log:List Frm}{T:List Int}{W:List Wld}{D:List Bool}{S:Store}(h:Sp (qv room s hb X vp vm vT vW vS vl m log T W D) S){i:Nat}(hi:i<X.length)
  (hf:X[i].p.fits) (hs:vz X[i].p) (hnl:(xl X[i].p).length<=512) (hnf:∀c∈xl X[i].p,c.fits) (hdo:xl X[i].p=[]\/DoC) (hw:playW X[i].w) (hk:X[i].k<=100000000000000000) (hlog:log.length<=1000000) (hhl:X[i].h.length<=1000000) (hX:X.length<=8)
  (R:Ja) (hno:¬fj X[i]->R (V.bool false) S)
  (hyes:fj X[i]->∀(o:One) (vl2:AV) (S2:Store),o.q=X[i].q->o.eb=X[i].eb->o.k<=X[i].k+4096->o.p=qf X[i].p (jg (Ce X[i]))->o.w=Ce X[i]->o.h=X[i].h++[jg (Ce X[i])]->
   Sp (qv room s hb (X.set i o) vp vm vT vW vS vl2 m (if i=0 then log++[⟨X[i].p.turn,xl X[i].p,jg (Ce X[i])⟩]else log) T W D) S2->R (V.bool true) S2):
  Jb 104 [ptr s,int (i:Nat)] S R:=by
 obtain⟨t,rfl⟩:=Ks h (λe=>ψv);have h0:=Bd h;have hq0:=Gj h hi;refine Qy 95 Tryz.func104 ?_;refine Qbc ?_;refine⟨i,rfl,za _ (vg _ hi) (za (o:=S.obj X[i].q) _ hq0 (ycl X[i].p hf hs θ _ _ (λhb=>?_) (λhp hc=>?_) (λhp hc=>?_)))⟩
 ·exact ret (hno λhh=>hb hh.1)
 ·exact ret (hno λhh=>hc hh.2)
 have hrun:fj X[i]:=⟨hp,hc⟩
 refine za (o:=S.obj X[i].q) _ hq0 ?_;have hFE:=(h.at 10 rfl).at (P:=EngR X[i].eb room X[i].k X[i].w) i (vg _ hi);refine hFE.call (xs:=[ptr X[i].eb,lst 10 z6 (xl X[i].p)]) (T:=λr S'=>∃k',k'<=X[i].k+4096/\EngR X[i].eb room k' (Ce X[i]) S') (λa ha=>ykw ha hw _ hdo hnf hnl hk _ (λk' S' h1 h2=>⟨k',h1,h2⟩)) (λr a' ⟨k',hk',ha'⟩ S' hS'=>?_)
 -- the engine has stepped
 obtain⟨o1,ho1⟩:∃o1:One,o1={X[i]with k:=k',w:=Ce X[i]}:=⟨_,rfl⟩
 have h2:Sp (qv room s hb (X.set i o1) (.lst 1 (X.map λo=>[ptr o.q]) (some t)) vm vT vW vS vl m log T W D) S':=by exact ydj hi k' (Ce X[i]) ho1 (hS' (EngR o1.eb room o1.k o1.w) (by rw[ho1];exact ha'))
 have hi1:i<(X.set i o1).length:=by rw[Fak];exact hi
 have hg1:(X.set i o1)[i]=o1:=Fcs ..;have hst:∀o,(X.set i o1).set i o=X.set i o:=λo=>List.set_set ..;have hxl:(X.set i o1).length=X.length:=Fak;generalize X.set i o1=Y at*;have hq1:=Gj h2 hi1;rw[hg1]at hq1;have oq:o1.q=X[i].q:=by rw[ho1]
 have op:o1.p=X[i].p:=by rw[ho1]
 have oe:o1.eb=X[i].eb:=by rw[ho1]
 have ow:o1.w=Ce X[i]:=by rw[ho1]
 have oh:o1.h=X[i].h:=by rw[ho1]
 have ok:o1.k<=X[i].k+4096:=by rw[ho1];exact hk'
 have ov:o1.vh=X[i].vh:=by rw[ho1]
 rw[oq,op,oe]at hq1;have hwp:playW (Ce X[i]):=zbb hw _;refine za (o:=S'.obj X[i].q) _ hq1 (((h2.at 10 rfl).at (P:=EngR o1.eb room o1.k o1.w) i (by rw[vg _ hi1,hg1])).look (xs:=[ptr X[i].eb]) (.agg (zt (Ce X[i]))) (λa ha T hT=>by rw[oe,ow]at ha;exact zeo ha hwp.sizes T hT) (yg9 (Ce X[i]) (yf1 hwp.1) _ _ ?_));have esum:F0 Nd (H2 (Ce X[i]))=jg (Ce X[i]):=rfl;rw[esum];generalize jg (Ce X[i])=hash at*;have hs1:=Bd h2;refine zu (λc1=>?_) (λc1=>?_)
 ·have hi0:i=0:=θ;refine Qc zb ya2 (Qbc (za (o:=S'.obj X[i].q) _ hq1 ?_));refine⟨ψ,⟨(h2.at 4 rfl).app (ie:=ti157) rfl rfl (rows:=[jt ⟨X[i].p.turn,xl X[i].p,hash⟩]) rfl φ ?_ (λb S3 h3=>⟨Tv,?_⟩),Tv⟩⟩
  ·simp only[Fab,zj,Fan];show(log.length+1)*40<=_/\log.length+1<=_;omega
  have hos:=(h3.at 7 rfl).obj;refine⟨za _ rfl (xa rfl (qz (v:=.lst 3 (rws jt log++[jt ⟨X[i].p.turn,xl X[i].p,hash⟩]) (some b)) rfl rfl rfl rfl (yg (i:=ti33) (v:=.lst 3 (rws jt log++[jt ⟨X[i].p.turn,xl X[i].p,hash⟩]) (some b)) (b:=s) (o:=6) rfl rfl rfl hos (show 6+1<=7 by decide) rfl ⟨Tv,?_⟩))),Tv⟩;have h4:=(h3.at 7 rfl).store [.lst 1 (X.map λo=>[ptr o.q]) (some t),vm,vT,.s (.slice (some ⟨hb,0,none⟩) Y.length Y.length),vW,vS,.lst 3 (rws jt log++[jt ⟨X[i].p.turn,xl X[i].p,hash⟩]) (some b)];have h5:Sp (qv room s hb Y (.lst 1 (X.map λo=>[ptr o.q]) (some t)) vm vT vW vS (.lst 3 (rws jt log++[jt ⟨X[i].p.turn,xl X[i].p,hash⟩]) (some b)) m (if i=0 then log++[⟨X[i].p.turn,xl X[i].p,hash⟩]else log) T W D) (S3.sO s (.cells (zq [.lst 1 (X.map λo=>[ptr o.q]) (some t),vm,vT,.s (.slice (some ⟨hb,0,none⟩) Y.length Y.length),vW,vS,vl] 6 [.lst 3 (rws jt log++[jt ⟨X[i].p.turn,xl X[i].p,hash⟩]) (some b)]))):=by rw[if_pos hi0];have e:rws jt (log++[⟨X[i].p.turn,xl X[i].p,hash⟩])=rws jt log++[jt ⟨X[i].p.turn,xl X[i].p,hash⟩]:=Faz;unfold qv;rw[e];exact h4
  generalize Store.sO S3 s (.cells (zq [.lst 1 (X.map λo=>[ptr o.q]) (some t),vm,vT,.s (.slice (some ⟨hb,0,none⟩) Y.length Y.length),vW,vS,vl] 6 [.lst 3 (rws jt log++[jt ⟨X[i].p.turn,xl X[i].p,hash⟩]) (some b)]))=S4 at*;generalize AV.lst 3 (rws jt log++[jt ⟨X[i].p.turn,xl X[i].p,hash⟩]) (some b)=vl2 at*;have hq5:=Gj h5 hi1;rw[hg1,oq,op,oe]at hq5;refine za (o:=S4.obj X[i].q) _ hq5 (zau X[i].p hash hf hs hp hc _ _ (j4 (i:=ti63) (v:=.agg (zo (qf X[i].p hash))) (xs:=zo (qf X[i].p hash)) (b:=X[i].q) (o:=0) (l:=zo X[i].p++[ptr X[i].eb]) rfl rfl rfl hq5 (show 0+11<=12 by decide) ?_));have h6:=((h5.at 9 rfl).at (P:=xp X[i].q (zo X[i].p++[ptr X[i].eb])) i (by rw[vg _ hi1,hg1,oq,op,oe])).store (zo (qf X[i].p hash)++[ptr X[i].eb]);have esp:zq (zo X[i].p++[ptr X[i].eb]) 0 (zo (qf X[i].p hash))=zo (qf X[i].p hash)++[ptr X[i].eb]:=rfl;rw[esp];generalize S4.sO X[i].q (.cells (zo (qf X[i].p hash)++[ptr X[i].eb]))=S5 at*;obtain⟨o2,ho2⟩:∃o2:One,o2={Y[i]with p:=qf X[i].p hash}:=⟨_,rfl⟩
  have h7:=Ve (o:=o2) hi1 (qf X[i].p hash) ho2 Qas;have hi2:i<(Y.set i o2).length:=by rw[Fak];exact hi1
  have hg2:(Y.set i o2)[i]=o2:=Fcs ..;have hst2:∀o,(Y.set i o2).set i o=X.set i o:=λo=>(List.set_set ..).trans (hst o);have hxl2:(Y.set i o2).length=X.length:=Fak.trans hxl;have o2h:o2.h=X[i].h:=by rw[ho2,hg1];exact oh
  have o2v:o2.vh=X[i].vh:=by rw[ho2,hg1];exact ov
  generalize Y.set i o2=Y2 at*;have hs7:=Bd h7;have hb7:=gb h7;refine Qc zb zac ?_;refine Qbc ?_;refine Qbc ?_;have hv:((Y2.map λo=>o.vh).drop (0+i*1)).head?=some X[i].vh:=by rw[Fba,Feo,Fch,vg _ hi2,hg2,o2v]
  refine⟨i,rfl,θ,Qbc (za _ hv ?_)⟩;refine⟨ψ,⟨((h7.at 5 rfl).at (P:=TokR 1 X[i].vh (rws yh X[i].h)) i (by rw[vg _ hi2,hg2,o2h,o2v])).app (ie:=ti12) rfl rfl (rows:=[yh hash]) rfl φ ?_ (λb S6 h8=>⟨?_,?_⟩),Tv⟩⟩
  ·simp only[Fab,zj,Fan];show(X[i].h.length+1)*8<=_/\X[i].h.length+1<=_;omega
  ·have hs8:=(h8.at 7 rfl).obj;repeat(first|exact Tv|refine⟨rfl,?_⟩|refine⟨za (o:=S6.obj s) _ hs8 rfl,?_⟩)
  have hb8:=(h8.at 6 rfl).obj;refine⟨i,rfl,θ,⟨za _ rfl (xa rfl (qz (v:=.lst 1 (rws yh X[i].h++[yh hash]) (some b)) rfl rfl rfl rfl (yg (i:=ti55) (v:=.lst 1 (rws yh X[i].h++[yh hash]) (some b)) (b:=hb) (o:=0+i*1) (l:=Y2.map λo=>o.vh) rfl rfl rfl hb8 Qat rfl ⟨Tv,?_⟩))),Tv⟩⟩;rw[uc Qat];have h9:=(h8.at 6 rfl).store ((Y2.map λo=>o.vh).set i (.lst 1 (rws yh X[i].h++[yh hash]) (some b)));obtain⟨o3,ho3⟩:∃o3:One,o3={Y2[i]with h:=X[i].h++[hash],vh:=.lst 1 (rws yh X[i].h++[yh hash]) (some b)}:=⟨_,rfl⟩
  have e3:rws yh (X[i].h++[hash])=rws yh X[i].h++[yh hash]:=Faz;have h10:=za4 (o:=o3) hi2 _ _ ho3 (by rw[ho3];dsimp only;rw[e3];exact h9);rw[hst2]at h10;refine ret (hyes hrun o3 _ _ ?_ ?_ ?_ ?_ ?_ ?_ h10);all_goals rw[ho3,hg2]
  ·rw[ho2,hg1];exact oq
  ·rw[ho2,hg1];exact oe
  ·rw[ho2,hg1];exact ok
  ·rw[ho2]
  ·rw[ho2,hg1];exact ow
 ·have h5:Sp (qv room s hb Y (.lst 1 (X.map λo=>[ptr o.q]) (some t)) vm vT vW vS vl m (if i=0 then log++[⟨X[i].p.turn,xl X[i].p,hash⟩]else log) T W D) S':=by
   rw[if_neg θ];exact h2
  generalize S'=S4 at*;have hq5:=Gj h5 hi1;rw[hg1,oq,op,oe]at hq5;refine za (o:=S4.obj X[i].q) _ hq5 (zau X[i].p hash hf hs hp hc _ _ (j4 (i:=ti63) (v:=.agg (zo (qf X[i].p hash))) (xs:=zo (qf X[i].p hash)) (b:=X[i].q) (o:=0) (l:=zo X[i].p++[ptr X[i].eb]) rfl rfl rfl hq5 (show 0+11<=12 by decide) ?_));have h6:=((h5.at 9 rfl).at (P:=xp X[i].q (zo X[i].p++[ptr X[i].eb])) i (by rw[vg _ hi1,hg1,oq,op,oe])).store (zo (qf X[i].p hash)++[ptr X[i].eb]);have esp:zq (zo X[i].p++[ptr X[i].eb]) 0 (zo (qf X[i].p hash))=zo (qf X[i].p hash)++[ptr X[i].eb]:=rfl;rw[esp];generalize S4.sO X[i].q (.cells (zo (qf X[i].p hash)++[ptr X[i].eb]))=S5 at*;obtain⟨o2,ho2⟩:∃o2:One,o2={Y[i]with p:=qf X[i].p hash}:=⟨_,rfl⟩
  have h7:=Ve (o:=o2) hi1 (qf X[i].p hash) ho2 Qas;have hi2:i<(Y.set i o2).length:=by rw[Fak];exact hi1
  have hg2:(Y.set i o2)[i]=o2:=Fcs ..;have hst2:∀o,(Y.set i o2).set i o=X.set i o:=λo=>(List.set_set ..).trans (hst o);have hxl2:(Y.set i o2).length=X.length:=Fak.trans hxl;have o2h:o2.h=X[i].h:=by rw[ho2,hg1];exact oh
  have o2v:o2.vh=X[i].vh:=by rw[ho2,hg1];exact ov
  generalize Y.set i o2=Y2 at*;have hs7:=Bd h7;have hb7:=gb h7;refine Qc zb zac ?_;refine Qbc ?_;refine Qbc ?_;have hv:((Y2.map λo=>o.vh).drop (0+i*1)).head?=some X[i].vh:=by rw[Fba,Feo,Fch,vg _ hi2,hg2,o2v]
  refine⟨i,rfl,θ,Qbc (za _ hv ?_)⟩;refine⟨ψ,⟨((h7.at 5 rfl).at (P:=TokR 1 X[i].vh (rws yh X[i].h)) i (by rw[vg _ hi2,hg2,o2h,o2v])).app (ie:=ti12) rfl rfl (rows:=[yh hash]) rfl φ ?_ (λb S6 h8=>⟨?_,?_⟩),Tv⟩⟩
  ·simp only[Fab,zj,Fan];show(X[i].h.length+1)*8<=_/\X[i].h.length+1<=_;omega
  ·have hs8:=(h8.at 7 rfl).obj;repeat(first|exact Tv|refine⟨rfl,?_⟩|refine⟨za (o:=S6.obj s) _ hs8 rfl,?_⟩)
  have hb8:=(h8.at 6 rfl).obj;refine⟨i,rfl,θ,⟨za _ rfl (xa rfl (qz (v:=.lst 1 (rws yh X[i].h++[yh hash]) (some b)) rfl rfl rfl rfl (yg (i:=ti55) (v:=.lst 1 (rws yh X[i].h++[yh hash]) (some b)) (b:=hb) (o:=0+i*1) (l:=Y2.map λo=>o.vh) rfl rfl rfl hb8 Qat rfl ⟨Tv,?_⟩))),Tv⟩⟩;rw[uc Qat];have h9:=(h8.at 6 rfl).store ((Y2.map λo=>o.vh).set i (.lst 1 (rws yh X[i].h++[yh hash]) (some b)));obtain⟨o3,ho3⟩:∃o3:One,o3={Y2[i]with h:=X[i].h++[hash],vh:=.lst 1 (rws yh X[i].h++[yh hash]) (some b)}:=⟨_,rfl⟩
  have e3:rws yh (X[i].h++[hash])=rws yh X[i].h++[yh hash]:=Faz;have h10:=za4 (o:=o3) hi2 _ _ ho3 (by rw[ho3];dsimp only;rw[e3];exact h9);rw[hst2]at h10;refine ret (hyes hrun o3 _ _ ?_ ?_ ?_ ?_ ?_ ?_ h10);all_goals rw[ho3,hg2]
  ·rw[ho2,hg1];exact oq
  ·rw[ho2,hg1];exact oe
  ·rw[ho2,hg1];exact ok
  ·rw[ho2]
  ·rw[ho2,hg1];exact ow
def zb3{id n d:Int}(hn:1<=n/\n<=8)(hid:1<=id/\id<=n):qe (xm id n d)↔1<=d/\d<=8:=by
 refine⟨λh=>h.1.2.2.1,λhd=>?_⟩;have hl:0<(List.replicate n.toNat (d-1)).length:=by rw[Fav];omega
 have h1:=List.eq_of_mem_replicate (O9 hl);have h2:=List.eq_of_mem_replicate (zcv hl);have hc:countsP (xm id n d) (List.replicate n.toNat (d-1)):=by
  refine⟨λj hj=>?_,?_,λh=>?_⟩
  ·rw[Fdz];show d-1<=d-1/\d-1<=0+16/\d-1<=maxT;unfold maxT;omega
  ·rw[Fav];show _=n;omega
  ·rw[Fdz];rfl
 have e:xm id n d=⟨id,n,d,0,d-1,[],[],List.replicate n.toNat (d-1),List.replicate n.toNat (d-1),[],false⟩:=by unfold xm;rw[if_pos hn]
 rw[e]at hc⊢;unfold maxT at*;refine⟨⟨hn,hid,hd,Fci 0,(show(0:Int)<=1099511627776 by decide)⟩,⟨Fci _,?_,?_⟩,hc,hc,?_,?_,(show(0:Nat)<=16 by decide),(show((0:Nat):Int)<=0 by decide),⟨?_,λj hj=>absurd hj (Fa2 j)⟩,?_,λj hj=>absurd hj (Fa2 j)⟩
 ·show d-1<=0+d-1;omega
 ·show d-1<=1099511627776;omega
 ·show(0:Int)-1<=yv (List.replicate n.toNat (d-1));omega
 ·show D6 (List.replicate n.toNat (d-1))<=d-1;omega
 ·show((0:Nat):Int)=d-1-yv (List.replicate n.toNat (d-1));omega
 ·exact λj hj=>absurd hj (Fa2 j)
def mkP(room:Int)(s:Nat)(X:List One)(vp:AV):List (Store->Prop):=
 [xp s [vp,nil,nil,nil,nil,nil,nil],TokR 1 vp (X.map λo=>[ptr o.q]),Sp (X.map λo=>xp o.q (zo o.p++[ptr o.eb])),Sp (X.map λo=>EngR o.eb room o.k o.w)]
def zb4(g:Gnd)(n d:Int)(i:Nat)(o:One):Prop:=o.p=xm ((i+1:Nat):Int) n d/\o.w=D4 g n/\o.h=[]/\o.k=0/\o.vh=.s (.slice none 0 0)
def zwg(g:Gnd)(hg:g.fits)(hT:g.T.length<=1000000)(n d room:Int)(hn:yq n)(hd:-1000000<=d/\d<=1000000)(hr:1<=room/\room<=4096)(rows:List (List AV))(hl:rows.length<=400)(hr5:∀row∈rows,∃(x1 x2 x3 x4:Int) (y:AV),row=[int x1,int x2,int x3,int x4,y]/\(y=nil\/∃l,y=lst 10 z6 l))
  (Inv:Nat->List One->AV->List Nte->List Frm->Prop) (hI0:∀X:List One,jk g n->(1<=d/\d<=8)->(X.length:Int)=n->(∀i,(hi:i<X.length)->zb4 g n d i X[i])->Inv 0 X nil [] [])
  (hIw:∀i X vm m log,Inv i X vm m log->(X.length:Int)=n/\(∀o∈X,playW o.w)/\log.length<=1000000)
  (hact:∀i,(hi:i<rows.length)->∀s hb X vp vm vl m log S,Inv i X vm m log->Sp (qv room s hb X vp vm nil nil nil vl m log [] [] []) S->
   Jb 30 [ptr s,.agg rows[i]] S λr S'=>r=.tup []/\∃X' vp' vm' vl' m' log',Inv (i+1) X' vm' m' log'/\Sp (qv room s hb X' vp' vm' nil nil nil vl' m' log' [] [] []) S'):
  Jb 8 [.agg (zw g),int n,int d,int room,.lst 5 rows none] Store.empty λr S=>(¬(jk g n/\1<=d/\d<=8)/\r=.tup [.agg [nil,nil,nil,nil,nil],int 1])∨
   ((jk g n/\1<=d/\d<=8)/\∃X vm m log hb,Inv rows.length X vm m log/\(S.obj hb=some (.cells (X.map λo=>o.vh))/\∀o∈X,AV.le o.vh (lst 1 yh o.h)/\o.vh.one=true)/\r=.tup [.agg [yd (X.map λo=>o.p.turn),.s (.slice (some ⟨hb,0,none⟩) X.length X.length),lst 8 zt (X.map λo=>o.w),lst 1 qu (X.map λo=>o.p.split),lst 3 jt log],int 0]):=by
 refine Qa (c:=cfg 156 [39,73] []) zb Tryz.func8 ?_;refine zhz g hg θ n hn _ _ (λhb=>?_) (λhp=>?_)
 ·exact ret (.inl ⟨λhh=>hb hh.1,rfl⟩)
 refine bcd (λc1=>?_) (λc1=>?_)
 ·exact absurd c1 θ
 intro s hs;have hw:=zbc hp;have hper:∀k:Nat,((k+1:Nat):Int)<=n->(qe (xm ((k+1:Nat):Int) n d)↔1<=d/\d<=8):=λk hk=>zb3 hp.2 ⟨θ,hk⟩
 refine AWp.loop (σ:=List One×AV) ⟨λx=>[(1,.av (int n)),(2,.av (int d)),(3,.av (int room)),(4,.av (.lst 5 rows none)),(10,.bx 10 0),(11,.av (int 0)),(12,.bx 12 0),(14,.av (ptr s)),(15,.av (int ((x.1.length+1:Nat):Int)))],
  λ_=>[(10,[nil,nil,nil,nil,nil]),(12,zt (D4 g n))],λx S=>Sp (mkP room s x.1 x.2) S/\(x.1.length:Int)<=n/\(x.1≠[]->1<=d/\d<=8)/\∀i,(hi:i<x.1.length)->zb4 g n d i x.1[i],λx=>n.toNat-x.1.length⟩ zb ?_ ?_
 ·refine⟨([],nil),Tv,⟨?_,?_,λh=>absurd rfl h,λi hi=>absurd hi (Fa2 i)⟩,Qax,⟨rfl,rfl,Tv⟩⟩
  ·exact⟨_,Store.empty,(Aj _).symm,λi _ h2=>h2.elim (λh=>h rfl) (λh=>h rfl),rfl,⟨Store.empty,Store.empty,rfl,Nk _,TokR.nil 1,⟨Store.empty,Store.empty,rfl,Nk _,rfl,⟨Store.empty,Store.empty,rfl,Nk _,rfl,rfl⟩⟩⟩⟩
  ·have:=hp.2.1;show(0:Int)<=n;omega
 rintro⟨X,vp⟩ S ⟨hP,hqn,hqd,hnew⟩;dsimp only at hP hqn hqd hnew⊢;refine bcd (λc2=>?_) (λc2=>?_)
 ·have hlen:(X.length+1:Int)<=n:=θ;have hpk:=hper X.length θ;refine ydr _ n d hd _ _ (λhb=>?_) (λhper1=>?_)
  ·exact rc hw hr _ (λeb E hE hdE=>ret (.inl ⟨λhh=>hb (hpk.2 hh.2),rfl⟩))
  refine rc hw hr _ (λeb E hE hdE=>?_);have hP1:=(hP.at 3 rfl).last hE hdE;have hs1:=(hP1.at 0 rfl).obj;refine Qc zb zxj (za (o:=(E.un S).obj s) _ hs1 ⟨λq hq=>?_,Tv⟩);have hP2:=(hP1.at 2 rfl).box hq (zo (xm ((X.length+1:Nat):Int) n d)++[ptr eb]);have hs2:=(hP2.at 0 rfl).obj;refine⟨(by repeat(first|exact Tv|refine⟨rfl,?_⟩|refine⟨za (o:=Store.obj _ _) _ hs2 rfl,?_⟩)),?_⟩;refine⟨ψ,⟨(hP2.at 1 rfl).app (ie:=ti80) rfl rfl (rows:=[[ptr q]]) rfl φ ?_ (λb S3 hP3=>⟨Tv,?_⟩),Tv⟩⟩
  ·have hn8:=hp.2.2;rw[Fab,Fam];show(X.length+1)*8<=_/\X.length+1<=_;omega
  have hs3:=(hP3.at 0 rfl).obj;refine⟨za _ rfl (xa rfl (qz (v:=.lst 1 (X.map (λo=>[ptr o.q])++[[ptr q]]) (some b)) rfl rfl rfl rfl (yg (i:=ti71) (v:=.lst 1 (X.map (λo=>[ptr o.q])++[[ptr q]]) (some b)) (b:=s) (o:=0) rfl rfl rfl hs3 (show 0+1<=7 by decide) rfl ?_))),Tv⟩;have hP4:=(hP3.at 0 rfl).store [.lst 1 (X.map (λo=>[ptr o.q])++[[ptr q]]) (some b),nil,nil,nil,nil,nil,nil];refine⟨Tv,ze (by have:=hp.2.2;omega) ?_⟩
  let o:One:=⟨q,eb,0,xm ((X.length+1:Nat):Int) n d,D4 g n,[],.s (.slice none 0 0)⟩
  refine⟨(X++[o],.lst 1 (X.map (λo=>[ptr o.q])++[[ptr q]]) (some b)),?_,⟨?_,?_,λ_=>hpk.1 hper1,λi hi=>?_⟩,⟨Tq,Tq,Tq,Tq,Tq,Tq,Tq,Tq,?_,Tv⟩,⟨rfl,rfl,Tv⟩⟩
  ·show n.toNat-(X++[o]).length<n.toNat-X.length;rw[Fab];show _-(_+1)<_;omega
  ·dsimp only;unfold mkP;rw[Faz,Faz,Faz];exact hP4
  ·show(((X++[o]).length:Nat):Int)<=n;rw[Fab];exact hlen
  ·dsimp only at hi⊢;by_cases hlt:i<X.length
   ·rw[Fbp hlt];exact hnew i hlt
   ·have:i=X.length:=by simp at hi;omega
    subst this;simp only[Fcq (Fai _),Fc8,Fby];exact⟨rfl,rfl,rfl,rfl,rfl⟩
  ·show LV.le (.av (int (((X.length+1:Nat):Int)+1))) (.av (int (((X++[o]).length+1:Nat):Int)));rw[Fab];exact Tq
 have hnq:n=(X.length:Int):=θ;subst hnq;have hX0:X≠[]:=λe=>by have:=hp.2.1;rw[e]at this;exact absurd this ψ
 have hX8:X.length<=8:=by have:=hp.2.2;omega
 have hd8:=hqd hX0;refine L4 rfl (it:=ti30) (ie:=ti55) rfl rfl rfl rfl rfl (n:=X.length) (by show 24*X.length<=_;omega) θ (λhb hhb=>?_);have hP1:=hP.new hhb (List.replicate X.length (.s (.slice none 0 0)));have hs1:=(hP1.at 1 rfl).obj;refine yg (i:=ti30) (v:=.s (.slice (some ⟨hb,0,none⟩) X.length X.length)) (b:=s) (o:=3) rfl rfl rfl hs1 (show 3+1<=7 by decide) rfl ?_;have hP2:=(hP1.at 1 rfl).store [vp,nil,nil,.s (.slice (some ⟨hb,0,none⟩) X.length X.length),nil,nil,nil];have hI:=hI0 X hp hd8 rfl hnew;have hvh:List.replicate X.length (AV.s (.slice none 0 0))=X.map λo=>o.vh:=by refine Fcx φ λj h1 h2=>?_;have hj:j<X.length:=θv;rw[Fdz,Fb1];exact(hnew j hj).2.2.2.2.symm
 have hP3:Sp (qv room s hb X vp nil nil nil nil nil [] [] [] [] []) (((S.sO hb (.cells (List.replicate X.length (.s (.slice none 0 0)))))).sO s (.cells [vp,nil,nil,.s (.slice (some ⟨hb,0,none⟩) X.length X.length),nil,nil,nil])):=by have hq:∀{α:Type} (k:Nat) (f:α->List AV),RowsQ k f Store.empty nil []:=λk f=>.inl (.inl ⟨rfl,rfl⟩);unfold qv;rw[<-hvh];refine Sp.none (hq 8 ye) (Sp.none (TokR.nil 1) (Sp.none (TokR.nil 8) (Sp.none (TokR.nil 1) (Sp.none (TokR.nil 3) (Sp.none (Sp.allE λP hP=>?_) hP2)))));obtain⟨o,ho,rfl⟩:=Fag.1 hP;obtain⟨j,hj,rfl⟩:=Faf ho;obtain⟨_,_,e1,_,e2⟩:=hnew j hj;rw[e1,e2];exact TokR.nil 1
 refine AWp.loop (σ:=Nat×List One×(AV×AV×AV)×List Nte×List Frm) ⟨λx=>[(10,.bx 10 0),(14,.av (ptr s)),(84,.av (.lst 5 rows none)),(85,.av (int (rows.length:Nat))),(86,.av (int (x.1:Nat)))],λ_=>[(10,[nil,nil,nil,nil,nil])],
  λx S'=>x.1<=rows.length/\Inv x.1 x.2.1 x.2.2.1.2.1 x.2.2.2.1 x.2.2.2.2/\Sp (qv room s hb x.2.1 x.2.2.1.1 x.2.2.1.2.1 nil nil nil x.2.2.1.2.2 x.2.2.2.1 x.2.2.2.2 [] [] []) S',λx=>rows.length-x.1⟩ zb ?_ ?_
 ·exact⟨(0,X,(vp,nil,nil),[],[]),Tv,⟨Fae _,hI,hP3⟩,Qax,⟨rfl,Tv⟩⟩
 clear hI hP3 hnew hqn hqd;rintro⟨i,X,⟨vp,vm,vl⟩,m,log⟩ S' ⟨hi,hI,hP⟩;dsimp only at hi hI hP⊢;refine bcd (λc3=>?_) (λc3=>?_)
 ·have hlt:i<rows.length:=θ;refine⟨i,rfl,za _ (Fac hlt) ?_⟩;have ha:=hact i hlt s hb X vp vm vl m log S' hI hP;obtain⟨x1,x2,x3,x4,y,er,hy⟩:=hr5 _ (Faa hlt);rw[er]at ha⊢;rcases hy with rfl|⟨l,rfl⟩
  all_goals
   refine ha.imp ?_;rintro r S3 ⟨rfl,X',vp',vm',vl',m',log',hI',hP'⟩;exact Qd ⟨(i+1,X',(vp',vm',vl'),m',log'),(show rows.length-(i+1)<rows.length-i by omega),⟨hlt,hI',hP'⟩,Qax,⟨rfl,Tv⟩⟩
 have hil:i=rows.length:=θ;subst hil;obtain⟨hXl,hXw,hlg⟩:=hIw _ _ _ _ _ hI;have hX1:X≠[]:=λe=>by rw[e]at hXl;simp at hXl;have:=Fco.2 hX0;omega
 have hX18:X.length<=8:=θ;obtain⟨t,rfl⟩:=Ks hP hX1;refine za (o:=S'.obj s) _ (Bd hP) ?_
 refine AWp.loop (σ:=Nat×AV×AV×AV) ⟨λx=>[(10,.bx 10 0),(14,.av (ptr s)),(97,.av (.lst 1 (X.map λo=>[ptr o.q]) (some t))),(98,.av (int (X.length:Nat))),(99,.av (int (x.1:Nat)))],λ_=>[(10,[nil,nil,nil,nil,nil])],
  λx S2=>x.1<=X.length/\Sp (qv room s hb X (.lst 1 (X.map λo=>[ptr o.q]) (some t)) vm x.2.1 x.2.2.1 x.2.2.2 vl m log ((X.take x.1).map λo=>o.p.turn) ((X.take x.1).map λo=>o.w) ((X.take x.1).map λo=>o.p.split)) S2,λx=>X.length-x.1⟩ zb ?_ ?_
 ·refine⟨(0,nil,nil,nil),Tv,⟨Fae _,hP⟩,⟨Tq,Tq,Tq,?_,Tq,Tv⟩,⟨rfl,Tv⟩⟩;rw[<-Fam (f:=λo:One=>[ptr o.q])];exact Tq
 clear hP;rintro⟨j,vT,vW,vS⟩ S3 ⟨hj,hP⟩;dsimp only at hj hP⊢;refine bcd (λc4=>?_) (λc4=>?_)
 ·have hlt:j<X.length:=θ;refine⟨j,rfl,za _ (vg _ hlt) ?_⟩;have tk:∀{α:Type} (f:One->α),(X.take (j+1)).map f=(X.take j).map f++[f X[j]]:=λf=>by rw[Fad hlt,Faz];rfl
  have hq3:=Gj hP hlt;refine Qc zb zxi (za (o:=S3.obj s) _ (Bd hP) (za (o:=S3.obj X[j].q) _ hq3 ⟨ψ,⟨(hP.at 1 rfl).app (ie:=ti2) rfl rfl (rows:=[zn X[j].p.turn]) rfl φ ?_ (λb1 S11 hQ1=>⟨Tv,?_⟩),Tv⟩⟩))
  ·simp only[Fab,zj,Fan,Fam,Fah];show(min j X.length+1)*8<=_/\min j X.length+1<=_;omega
  have hs1:=(hQ1.at 7 rfl).obj;refine⟨za _ rfl (xa rfl (qz (v:=.lst 1 (rws zn ((X.take j).map λo=>o.p.turn)++[zn X[j].p.turn]) (some b1)) rfl rfl rfl rfl (yg (i:=ti29) (v:=.lst 1 (rws zn ((X.take j).map λo=>o.p.turn)++[zn X[j].p.turn]) (some b1)) (b:=s) (o:=2) rfl rfl rfl hs1 (show 2+1<=7 by decide) rfl ⟨Tv,?_⟩))),Tv⟩;have hR1:=(hQ1.at 7 rfl).store [(.lst 1 (X.map λo=>[ptr o.q]) (some t)),vm,(.lst 1 (rws zn ((X.take j).map λo=>o.p.turn)++[zn X[j].p.turn]) (some b1)),.s (.slice (some ⟨hb,0,none⟩) X.length X.length),vW,vS,vl];have hP5:Sp (qv room s hb X (.lst 1 (X.map λo=>[ptr o.q]) (some t)) vm (.lst 1 (rws zn ((X.take j).map λo=>o.p.turn)++[zn X[j].p.turn]) (some b1)) vW vS vl m log ((X.take (j+1)).map λo=>o.p.turn) ((X.take j).map λo=>o.w) ((X.take j).map λo=>o.p.split)) (S11.sO s (.cells (zq [(.lst 1 (X.map λo=>[ptr o.q]) (some t)),vm,vT,.s (.slice (some ⟨hb,0,none⟩) X.length X.length),vW,vS,vl] 2 [.lst 1 (rws zn ((X.take j).map λo=>o.p.turn)++[zn X[j].p.turn]) (some b1)]))):=by rw[tk (λo=>o.p.turn)];unfold qv;rw[show rws zn ((X.take j).map (λo=>o.p.turn)++[X[j].p.turn])=rws zn ((X.take j).map λo=>o.p.turn)++[zn X[j].p.turn]from Faz];exact hR1
  generalize S11.sO s (.cells (zq [(.lst 1 (X.map λo=>[ptr o.q]) (some t)),vm,vT,.s (.slice (some ⟨hb,0,none⟩) X.length X.length),vW,vS,vl] 2 [.lst 1 (rws zn ((X.take j).map λo=>o.p.turn)++[zn X[j].p.turn]) (some b1)]))=S6 at*;generalize hvT:AV.lst 1 (rws zn ((X.take j).map λo=>o.p.turn)++[zn X[j].p.turn]) (some b1)=uT at*;have hs5:=Bd hP5;have hq5:=Gj hP5 hlt;have hwj:=hXw X[j] (Faa hlt);refine Qc zb zxh (Qbc (za (o:=S6.obj X[j].q) _ hq5 ?_));refine⟨((hP5.at 10 rfl).at (P:=EngR X[j].eb room X[j].k X[j].w) j (vg _ hlt)).look (xs:=[ptr X[j].eb]) (.agg (zt X[j].w)) (λa ha T hT=>zeo ha hwj.sizes T hT) ⟨(by repeat(first|exact Tv|refine⟨rfl,?_⟩|refine⟨za (o:=Store.obj _ _) _ hs5 rfl,?_⟩)),?_⟩,Tv⟩;refine⟨ψ,?_⟩;refine⟨(hP5.at 2 rfl).app (ie:=ti46) rfl rfl (rows:=[zt X[j].w]) rfl φ ?_ (λb2 S12 hQ2=>⟨Tv,?_⟩),Tv⟩
  ·simp only[Fab,zj,Fan,Fam,Fah];show(min j X.length+1)*112<=_/\min j X.length+1<=_;omega
  have hs2:=(hQ2.at 7 rfl).obj;refine⟨za _ rfl (xa rfl (qz (v:=.lst 8 (rws zt ((X.take j).map λo=>o.w)++[zt X[j].w]) (some b2)) rfl rfl rfl rfl (yg (i:=ti31) (v:=.lst 8 (rws zt ((X.take j).map λo=>o.w)++[zt X[j].w]) (some b2)) (b:=s) (o:=4) rfl rfl rfl hs2 (show 4+1<=7 by decide) rfl ⟨Tv,?_⟩))),Tv⟩;have hR2:=(hQ2.at 7 rfl).store [(.lst 1 (X.map λo=>[ptr o.q]) (some t)),vm,uT,.s (.slice (some ⟨hb,0,none⟩) X.length X.length),(.lst 8 (rws zt ((X.take j).map λo=>o.w)++[zt X[j].w]) (some b2)),vS,vl];have hP6:Sp (qv room s hb X (.lst 1 (X.map λo=>[ptr o.q]) (some t)) vm uT (.lst 8 (rws zt ((X.take j).map λo=>o.w)++[zt X[j].w]) (some b2)) vS vl m log ((X.take (j+1)).map λo=>o.p.turn) ((X.take (j+1)).map λo=>o.w) ((X.take j).map λo=>o.p.split)) (S12.sO s (.cells (zq [(.lst 1 (X.map λo=>[ptr o.q]) (some t)),vm,uT,.s (.slice (some ⟨hb,0,none⟩) X.length X.length),vW,vS,vl] 4 [.lst 8 (rws zt ((X.take j).map λo=>o.w)++[zt X[j].w]) (some b2)]))):=by rw[tk (λo=>o.w)];unfold qv;rw[show rws zt ((X.take j).map (λo=>o.w)++[X[j].w])=rws zt ((X.take j).map λo=>o.w)++[zt X[j].w]from Faz];exact hR2
  generalize S12.sO s (.cells (zq [(.lst 1 (X.map λo=>[ptr o.q]) (some t)),vm,uT,.s (.slice (some ⟨hb,0,none⟩) X.length X.length),vW,vS,vl] 4 [.lst 8 (rws zt ((X.take j).map λo=>o.w)++[zt X[j].w]) (some b2)]))=S7 at*;generalize hvW:AV.lst 8 (rws zt ((X.take j).map λo=>o.w)++[zt X[j].w]) (some b2)=uW at*;have hs6:=Bd hP6;have hq6:=Gj hP6 hlt;refine Qc zb zxg (Qbc (za (o:=S7.obj X[j].q) _ hq6 ?_));refine⟨ψ,⟨(hP6.at 3 rfl).app (ie:=ti4) rfl rfl (rows:=[qu X[j].p.split]) rfl φ ?_ (λb3 S13 hQ3=>⟨Tv,?_⟩),Tv⟩⟩
  ·simp only[Fab,zj,Fan,Fam,Fah];show(min j X.length+1)*1<=_/\min j X.length+1<=_;omega
  have hs3:=(hQ3.at 7 rfl).obj;refine⟨za _ rfl (xa rfl (qz (v:=.lst 1 (rws qu ((X.take j).map λo=>o.p.split)++[qu X[j].p.split]) (some b3)) rfl rfl rfl rfl (yg (i:=ti32) (v:=.lst 1 (rws qu ((X.take j).map λo=>o.p.split)++[qu X[j].p.split]) (some b3)) (b:=s) (o:=5) rfl rfl rfl hs3 (show 5+1<=7 by decide) rfl ⟨Tv,?_⟩))),Tv⟩;have hR3:=(hQ3.at 7 rfl).store [(.lst 1 (X.map λo=>[ptr o.q]) (some t)),vm,uT,.s (.slice (some ⟨hb,0,none⟩) X.length X.length),uW,(.lst 1 (rws qu ((X.take j).map λo=>o.p.split)++[qu X[j].p.split]) (some b3)),vl];refine Qd ⟨(j+1,uT,uW,.lst 1 (rws qu ((X.take j).map λo=>o.p.split)++[qu X[j].p.split]) (some b3)),(show X.length-(j+1)<X.length-j by omega),⟨hlt,?_⟩,Qax,⟨rfl,Tv⟩⟩;dsimp only;rw[tk (λo=>o.p.split)];unfold qv;rw[show rws qu ((X.take j).map (λo=>o.p.split)++[X[j].p.split])=rws qu ((X.take j).map λo=>o.p.split)++[qu X[j].p.split]from Faz];exact hR3
 have hil:j=X.length:=θ;subst hil;rw[Faj]at hP;have tok:∀{k:Nat} {v:AV} {l:List (List AV)} {K:(Store->Prop)->Store->Prop},Foc (TokR k v l) K S3->(v=nil/\l=[])\/∃t,v=.lst k l (some t):=λh=>by
  obtain⟨a,g,_,_,ht,_⟩:=h;rcases ht with⟨e1,e2,_⟩|⟨_,t,e,_⟩
  ·exact .inl ⟨e2,e1⟩
  ·exact .inr ⟨t,e⟩
 have ne:∀{α:Type} (f:One->α) (g:α->List AV),rws g (X.map f)≠[]:=λf g e=>hX1 (Fdu.1 (Fdu.1 e));have hs9:=Bd hP;have hvh3:S3.obj hb=some (.cells (X.map λo=>o.vh))/\∀o∈X,AV.le o.vh (lst 1 yh o.h)/\o.vh.one=true:=⟨gb hP,λo ho=>by obtain⟨j,hj,rfl⟩:=Faf ho;obtain⟨a,g,_,_,ht,_⟩:=(hP.at 5 rfl).at (P:=TokR 1 X[j].vh (rws yh X[j].h)) j (vg _ hj);refine⟨ht.le,?_⟩;rcases ht with⟨_,e,_⟩|⟨_,t,e,_⟩<;>rw[e]<;>rfl⟩
 obtain⟨t1,e1⟩:=(tok (hP.at 1 rfl)).resolve_left λh=>ne _ _ h.2;obtain⟨t2,e2⟩:=(tok (hP.at 2 rfl)).resolve_left λh=>ne _ _ h.2;obtain⟨t3,e3⟩:=(tok (hP.at 3 rfl)).resolve_left λh=>ne _ _ h.2;have e4:=tok (hP.at 4 rfl);clear hP;subst e1 e2 e3;rcases e4 with⟨rfl,e4⟩|⟨t4,rfl⟩
 ·have elog:log=[]:=Fdu.1 e4;subst elog;refine Qbc ?_;refine zao (r:=.tup [.agg [yd (X.map λo=>o.p.turn),.s (.slice (some ⟨hb,0,none⟩) X.length X.length),lst 8 zt (X.map λo=>o.w),lst 1 qu (X.map λo=>o.p.split),lst 3 jt []],int 0]) ?_ (.inr ⟨⟨hp,hd8⟩,X,vm,m,[],hb,hI,hvh3,rfl⟩);exact ln (AV.le_aggL ⟨AV.le_tok _ _ _,Tt,AV.le_tok _ _ _,AV.le_tok _ _ _,AV.le_nil 3,Tv⟩) (Tt)
 ·refine Qbc ?_;refine zao (r:=.tup [.agg [yd (X.map λo=>o.p.turn),.s (.slice (some ⟨hb,0,none⟩) X.length X.length),lst 8 zt (X.map λo=>o.w),lst 1 qu (X.map λo=>o.p.split),lst 3 jt log],int 0]) ?_ (.inr ⟨⟨hp,hd8⟩,X,vm,m,log,hb,hI,hvh3,rfl⟩);exact ln (AV.le_aggL ⟨AV.le_tok _ _ _,Tt,AV.le_tok _ _ _,AV.le_tok _ _ _,AV.le_tok _ _ _,Tv⟩) (Tt)
def ym0{c:Cmd}(h:vo c):c.U.length<=64:=by
 obtain⟨h1,_,_,h4⟩:=h;have e:=congrArg Cmd.U h4;have hn:c.U=[]\/Cr c.U:=by
  rcases h1 with h|h|h|h|h|h|h
  ·rw[Cmd.only1 h.1]at e;exact .inl e.symm
  ·exact .inr h.2.1
  ·exact .inr h.2
  ·rw[Cmd.only4 h.1]at e;exact .inl e.symm
  ·rw[Cmd.only5 h.1]at e;exact .inl e.symm
  ·exact .inr h.2.1
  ·rw[Cmd.only7 h.1]at e;exact .inl e.symm
 rcases hn with h|h
 ·rw[h];exact Fae _
 ·exact h.1.2
def Wb{i:Inp}(h:Aa i):i.fits/\small i.C:=by
 obtain⟨_,_,h3,h4⟩:=h;have hu:∀c∈i.C,c.U.length<=64:=λc hc=>by obtain⟨j,hj,rfl⟩:=Faf hc;exact ym0 (h3 j hj).1
 exact⟨⟨θ,λc hc=>Fb6 (hu c hc) ψ⟩,θ,λc hc=>Fb6 (hu c hc) ψ⟩
def Bt{l:List Int}{x:Int}(h:x∈l):yv l<=x:=by
 have key:∀(l:List Int) (a:Int),l.foldl min a<=a/\∀x∈l,l.foldl min a<=x:=by
  intro l;induction l with
  |nil=>exact λa=>⟨Fci _,λx hx=>nomatch hx⟩
  |cons y l ih=>
   intro a;obtain⟨h1,h2⟩:=ih (min a y);rw[Fct];refine⟨θ,λx hx=>?_⟩;rcases Fax.1 hx with rfl|hx
   ·omega
   ·exact h2 x hx
 cases l with
 |nil=>cases h
 |cons a l=>
  rcases Fax.1 h with rfl|h
  ·exact(key l _).1
  ·exact(key l a).2 x h
def lq{l:List Int}{x:Int}(h:x∈l):x<=D6 l:=by
 have key:∀(l:List Int) (a:Int),a<=l.foldl max a/\∀x∈l,x<=l.foldl max a:=by
  intro l;induction l with
  |nil=>exact λa=>⟨Fci _,λx hx=>nomatch hx⟩
  |cons y l ih=>
   intro a;obtain⟨h1,h2⟩:=ih (max a y);rw[Fct];refine⟨θ,λx hx=>?_⟩;rcases Fax.1 hx with rfl|hx
   ·omega
   ·exact h2 x hx
 cases l with
 |nil=>cases h
 |cons a l=>
  rcases Fax.1 h with rfl|h
  ·exact(key l _).1
  ·exact(key l a).2 x h
def V3{l:List Int}{a:Int}(h0:0<l.length)(h:∀x∈l,a<=x):a<=yv l:=h _ (O9 h0)
def zcw{l:List Int}{a:Int}(h0:0<l.length)(h:∀x∈l,x<=a):D6 l<=a:=h _ (zcv h0)
def mem_set{l:List Int}{i:Nat}{v x:Int}(h:x∈l.set i v):x=v\/x∈l:=(Fej h).symm
def yft{l:List Int}{i:Nat}(hi:i<l.length)(h2:2<=l.length)(hm:∀x∈l,x<=l[i]){v:Int}(hv:l[i]<=v):yv (l.set i v)=yv l:=by
 have h0:0<l.length:=θ;have h0':0<(l.set i v).length:=by rw[Fak];exact h0
 have a1:yv l<=yv (l.set i v):=V3 h0' λx hx=>by
  rcases mem_set hx with rfl|hx
  ·exact Fd6 (Bt (Faa hi)) hv
  ·exact Bt hx
 have a2:yv (l.set i v)<=yv l:=by
  obtain⟨k,hk,e⟩:=Faf (O9 h0);have get:∀j,(hj:j<l.length)->i≠j->yv (l.set i v)<=l[j]:=λj hj hij=>by exact Bt (Fa5 (i:=j) (by rw[Fc0 hij];exact Fac hj))
  by_cases e2:i=k
  ·subst e2;obtain⟨j,hj,hne⟩:∃j,j<l.length/\i≠j:=if h:i=0 then⟨1,θ,θ⟩else⟨0,h0,h⟩
   have:=get j hj hne;have h3:=hm _ (Faa hj);omega
  ·have:=get k hk e2;omega
 omega
def risesI_iff{l:List Inp}:Cf l↔(∀x∈l,Aa x)/\l.Pairwise qr:=by refine⟨λh=>⟨λx hx=>?_,Fbv.2 λi j hi hj hij=>Sr h hj hij⟩,λ⟨h1,h2⟩ j hj=>⟨h1 _ (Faa hj),λh0=>Fbv.1 h2 (j-1) j θ hj θ⟩⟩;obtain⟨j,hj,rfl⟩:=Faf hx;exact(h j hj).1
def f7:∀{l:List Inp} {a b:Int},a<=b+1->l.Pairwise qr->(∀x∈l,(1<=x.p/\x.p<=8)/\a<=x.t*9+x.p/\x.t*9+x.p<=b)->(l.length:Int)<=b-a+1
 |[],a,b,h0,_,_=>χ
 |x::l,a,b,h0,hp,h=>by
  obtain⟨h1,h2⟩:=Fb2.1 hp;have hx:=h x Fa1;have:=f7 (a:=x.t*9+x.p+1) (b:=b) θ h2 λy hy=>by have h3:=h1 y hy;have h4:=h y (Fau _ hy);unfold qr at h3;omega
  rw[Fbg];omega
theorem zdi(y x:Inp)(l:List Inp):jl (y::l) x=if qr y x then y::jl l x else x::y::l:=by unfold jl;by_cases h:qr y x<;>simp[List.takeWhile,List.dropWhile,h]
theorem mem_insI{x y:Inp}:∀{l:List Inp},y∈jl l x↔y=x\/y∈l
 |[]=>by simp[jl]
 |z::l=>by
  rw[zdi];split
  ·rw[Fax,mem_insI,Fax];exact⟨λh=>by rcases h with h|h|h<;>simp[h],λh=>by rcases h with h|h|h<;>simp[h]⟩
  ·simp[Fax]
def zdh{x:Inp}:∀{l:List Inp},l.Pairwise qr->¬Bf l x->(jl l x).Pairwise qr
 |[],_,_=>by simp[jl]
 |y::l,hp,hn=>by
  obtain⟨h1,h2⟩:=Fb2.1 hp;rw[zdi];split
  ·rename_i h;refine Fb2.2 ⟨λz hz=>?_,zdh h2 λ⟨z,hz,e⟩=>hn ⟨z,Fau _ hz,e⟩⟩;rcases mem_insI.1 hz with rfl|hz
   ·exact h
   ·exact h1 z hz
  ·rename_i h;have hxy:qr x y:=by
    have:¬(y.t=x.t/\y.p=x.p):=λe=>hn ⟨y,Fa1,e⟩;unfold qr at h⊢;omega
   refine Fb2.2 ⟨λz hz=>?_,hp⟩;rcases Fax.1 hz with rfl|hz
   ·exact hxy
   ·exact Pc hxy (h1 z hz)
def zdg{l:List Inp}{x:Inp}(h:Cf l)(hx:Aa x)(hn:¬Bf l x):Cf (jl l x):=by
 obtain⟨h1,h2⟩:=risesI_iff.1 h;refine risesI_iff.2 ⟨λy hy=>?_,zdh h2 hn⟩;rcases mem_insI.1 hy with rfl|hy
 ·exact hx
 ·exact h1 y hy
def ykq{l:List Inp}(h:Cf l)(q:Inp->Bool):Cf (l.filter q):=by obtain⟨h1,h2⟩:=risesI_iff.1 h;exact risesI_iff.2 ⟨λy hy=>h1 y (Fbc.1 hy).1,h2.filter q⟩
def inputs_iff{p:Per}:Wa p↔∀x∈p.inputs,p.turn<=x.t/\x.p<=p.players/\∀h:(x.p-1).toNat<p.has.length,x.t<=p.has[(x.p-1).toNat]:=by refine⟨λh x hx=>?_,λh j hj=>h _ (Faa hj)⟩;obtain⟨j,hj,rfl⟩:=Faf hx;exact h j hj
section
variable {p:Per}
def ydx(hp:qe p)(ht:p.turn<=900000):p.fits/\vz p:=by
 obtain⟨⟨hpl,hid,hd,ht0⟩,hs,hh,ha,hm1,hm2,hl1,hl2,⟨hm3,hm4⟩,hr,hi⟩:=hp;have ha0:0<p.acked.length:=θ6;have hlow:=(ha.mem (O9 ha0)).1;have hml:p.mine.length<=1000000:=θ;obtain⟨h1,h2⟩:=risesI_iff.1 hr;have hil:(p.inputs.length:Int)<=(p.turn+16)*9+8-(p.turn*9)+1:=f7 θ h2 λx hx=>by
  have hp:=(h1 x hx).2.1;have h3:=inputs_iff.1 hi x hx;have hb:(x.p-1).toNat<p.has.length:=by have:=hh.2.1;omega
  have:=h3.2.2 hb;have:=(hh.1 _ hb).2.1;omega
 have f1:∀i∈p.mine,i.fits/\small i.C:=λi hi=>by obtain⟨j,hj,rfl⟩:=Faf hi;exact Wb (hm4 j hj).1
 have f2:∀i∈p.inputs,i.fits/\small i.C:=λi hi=>Wb (h1 i hi);have l1:=hh.2.1;have l2:=ha.2.1;exact⟨⟨⟨θ,λi hi=>(f1 i hi).1⟩,⟨θ,λi hi=>(f2 i hi).1⟩,θ,θ,θ⟩,⟨hml,λi hi=>(f1 i hi).2⟩,⟨θ,λi hi=>(f2 i hi).2⟩,θ,θ,θ⟩
def zg0:∀{l:List Inp},(∀i∈l,Aa i)->(wn l).length<=64*l.length
 |[],_=>Fai _
 |i::l,h=>by have h1:=(h i Fa1).2.2.2;have h2:=zg0 λi hi=>h i (Fau _ hi);show(i.C++wn l).length<=_;rw[Fab,Fbg];omega
def ydy(hp:qe p):(xl p).length<=512/\∀c∈xl p,c.fits:=by
 obtain⟨h1,h2⟩:=risesI_iff.1 hp.2.2.2.2.2.2.2.2.2.1;have hm:∀x∈ofT p.turn p.inputs,Aa x/\x.t=p.turn:=λx hx=>by obtain⟨h3,h4⟩:=Fbc.1 hx;exact⟨h1 x h3,by simpa using h4⟩
 have hl:((ofT p.turn p.inputs).length:Int)<=p.turn*9+8-(p.turn*9+1)+1:=f7 θ (h2.filter _) λx hx=>by obtain⟨h3,h4⟩:=hm x hx;have:=h3.2.1;rw[h4];omega
 have:=zg0 λi hi=>(hm i hi).1;refine⟨?_,λc hc=>?_⟩
 ·show(wn _).length<=_;omega
 ·obtain⟨i,hi,hci⟩:=List.mem_flatMap.1 hc;exact(Wb (hm i hi).1).1.2 c hci
def ya8(hp:qe p)(l:List Cmd):¬Bf p.inputs (jh p l):=by
 rintro⟨y,hy,hy1,hy2⟩;have hy1:y.t=p.said+1:=hy1;have hy2:y.p=p.id:=hy2;have g2:=(inputs_iff.1 hp.2.2.2.2.2.2.2.2.2.2 y hy).2.2;rw[hy2]at g2;have hlt:(p.id-1).toNat<p.has.length:=by have:=hp.2.2.1.2.1;have:=hp.1.2.1;omega
 have g3:=g2 hlt;rw[hp.2.2.1.2.2 hlt]at g3;omega
def zep{l:List Cmd}(h:jo p l=0):qe p/\p.said≠p.turn+p.delay-1/\p.said≠maxT/\Mj p.id l:=by
 unfold jo at h;by_cases h1:qe p
 ·rw[if_neg (λhh=>hh h1)]at h;by_cases h2:p.said=p.turn+p.delay-1\/p.said=1099511627776
  ·rw[if_pos h2]at h;cases h
  ·rw[if_neg h2]at h;by_cases h3:Mj p.id l
   ·exact⟨h1,λe=>h2 (.inl e),λe=>h2 (.inr e),h3⟩
   ·rw[if_pos h3]at h;cases h
 ·rw[if_pos h1]at h;cases h
def W9{l:List Int}{q:Per}(h:countsP p l){i:Nat}{v:Int}(e1:q.delay=p.delay)(e2:q.turn=p.turn)(e3:q.players=p.players)(hv:p.delay-1<=v/\v<=p.turn+16/\v<=maxT)(hs:(q.id-1).toNat<l.length->(l.set i v)[(q.id-1).toNat]?=some q.said):countsP q (l.set i v):=by
 refine⟨λj hj=>?_,by rw[Fak,e3];exact h.2.1,λhj=>?_⟩
 ·rw[e1,e2];rcases mem_set (Faa hj)with e|e
  ·rw[e];exact hv
  ·exact h.mem e
 ·have:=hs (by rw[Fak]at hj;exact hj);rw[Fac hj]at this;exact Option.some.inj this
def ya9{l:List Cmd}(he:jo p l=0):qe (jc p l):=by
 obtain⟨hp,hs1,hs2,hsd⟩:=zep he;have hno:=ya8 hp l;obtain⟨⟨hpl,hid,hd,ht0⟩,hs,hh,ha,hm1,hm2,hl1,hl2,⟨hm3,hm4⟩,hr,hi⟩:=hp;have hih:(p.id-1).toNat<p.has.length:=by have:=hh.2.1;omega
 have hia:(p.id-1).toNat<p.acked.length:=θ6;have hsh:=hh.2.2 hih;have hsa:=ha.2.2 hia;have hip:Aa (jh p l):=⟨⟨(show 0<=p.said+1 by omega),(show p.said+1<=maxT by omega)⟩,(show 1<=p.id/\p.id<=8 by omega),hsd⟩
 have hmin:p.turn-1<=p.said:=by rw[<-hsh];exact Fd6 hm1 (Bt (Faa hih))
 have hset:∀{l:List Int} (i:Nat),i<l.length->(l.set i (p.said+1))[i]?=some (p.said+1):=λi h=>Fdc h;have h0:0<p.has.length:=θ;have h0a:0<p.acked.length:=θ;refine⟨⟨hpl,hid,hd,ht0⟩,⟨?_,?_,?_⟩,W9 hh rfl rfl rfl ⟨θ,θ,θ⟩ (hset _),W9 ha rfl rfl rfl ⟨θ,θ,θ⟩ (hset _),?_,?_,hl1,hl2,?_,zdg hr hip hno,inputs_iff.2 λx hx=>?_⟩
 ·show p.delay-1<=p.said+1;omega
 ·show p.said+1<=p.turn+p.delay-1;omega
 ·show p.said+1<=maxT;omega
 ·refine V3 (by show 0<(p.has.set _ _).length;rw[Fak];exact h0) λx hx=>?_;show p.turn-1<=x;rcases mem_set hx with rfl|hx
  ·omega
  ·exact Fd6 hm1 (Bt hx)
 ·refine zcw (by show 0<(p.acked.set _ _).length;rw[Fak];exact h0a) λx hx=>?_;show x<=p.said+1;rcases mem_set hx with rfl|hx
  ·omega
  ·have:=lq hx;omega
 ·by_cases hp1:p.players>1
  ·have em:(jc p l).mine=p.mine++[jh p l]:=if_pos hp1;have hmm:=yft hia θ6 (λx hx=>by have:=lq hx;omega) (v:=p.said+1) θ;refine⟨?_,λj hj=>?_⟩
   ·rw[em,Fab];show _=p.said+1-yv (p.acked.set _ (p.said+1));rw[hmm];show((p.mine.length+1:Nat):Int)=_;omega
   ·have hj2:j<(p.mine++[jh p l]).length:=by rw[<-em];exact hj
    have eg:(jc p l).mine[j]=(p.mine++[jh p l])[j]:=by simp only[em]
    rw[eg,em];show Aa _/\_=p.id/\_=p.said+1-((p.mine++[jh p l]).length:Int)+1+j;rw[Fab]at hj2⊢;have hj3:j<p.mine.length+1:=hj2;show _/\_/\_=p.said+1-((p.mine.length+1:Nat):Int)+1+j;by_cases hlt:j<p.mine.length
    ·rw[Fbp hlt];have:=hm4 j hlt;exact⟨this.1,this.2.1,θ⟩
    ·have:j=p.mine.length:=θ;subst this;simp only[Fcq (Fai _),Fc8,Fby];exact⟨hip,rfl,(show p.said+1=_ by omega)⟩
  ·have em:(jc p l).mine=p.mine:=if_neg hp1;have hla:p.acked.length=1:=by have:=ha.2.1;omega
   obtain⟨x,hx⟩:=List.length_eq_one_iff.1 hla;have hid0:(p.id-1).toNat=0:=θ;have hx1:x=p.said:=by
    have:p.acked[(p.id-1).toNat]?=some p.said:=by rw[Fac hia,hsa]
    rw[hx,hid0]at this;exact Option.some.inj this
   have hm0:p.mine=[]:=by rw[hx]at hm3;have:yv [x]=x:=rfl;exact Fa0 θ
   refine⟨?_,λj hj=>?_⟩
   ·rw[em,hm0];show((0:Nat):Int)=p.said+1-yv (p.acked.set _ (p.said+1));rw[hx,hid0];show(0:Int)=p.said+1-(p.said+1);omega
   ·rw[em,hm0]at hj;exact absurd hj (Fa2 j)
 ·show p.turn<=x.t/\x.p<=p.players/\∀h:(x.p-1).toNat<(p.has.set _ (p.said+1)).length,x.t<=(p.has.set _ (p.said+1))[(x.p-1).toNat]
  rcases mem_insI.1 hx with rfl|hx
  ·exact⟨(show p.turn<=p.said+1 by omega),(show p.id<=p.players by omega),λh=>Int.le_of_eq (Fcs (i:=(p.id-1).toNat) h).symm⟩
  ·obtain⟨a1,a2,a3⟩:=inputs_iff.1 hi x hx;refine⟨a1,a2,λh=>?_⟩;rw[Fak]at h;have:=a3 h;rw[Fcl];split
   ·rename_i e;have e2:p.has[(x.p-1).toNat]=p.said:=by rw[<-hsh];congr 1;exact e.symm
    omega
   ·exact this
end
def zek{m:Int}:∀{l:List Inp} {a:Int},(∀j,(hj:j<l.length)->l[j].t=a+j)->l.filter (nq λi=>decide (i.t<=m))=l.drop (m+1-a).toNat
 |[],a,_=>φ
 |x::l,a,h=>by
  have hx:x.t=a:=by have:=h 0 (Nat.zero_lt_succ _);simp only[Fby]at this;omega
  have ih:=zek (m:=m) (l:=l) (a:=a+1) λj hj=>by have:=h (j+1) (Nat.succ_lt_succ hj);simp only[List.getElem_cons_succ]at this;omega
  by_cases hm:a<=m
  ·rw[show(m+1-a).toNat=(m+1-(a+1)).toNat+1 by omega,List.drop_succ_cons,<-ih];refine List.filter_cons_of_neg ?_;simp[nq,hx,hm]
  ·rw[show(m+1-a).toNat=0 by omega,Fc1];rw[show(m+1-(a+1)).toNat=0 by omega,Fc1]at ih;rw[List.filter_cons_of_pos (by simp[nq,hx];omega),ih]
def O2(p:Per):qe p->0<p.has.length/\0<p.acked.length/\(p.id-1).toNat<p.has.length/\(p.id-1).toNat<p.acked.length:=λhp=>ψ4
section
variable {p:Per}
def yct(hp:qe p)(hc:Bj p)(h:Int):qe (qf p h):=by
 obtain⟨h0,h0a,hih,hia⟩:=O2 p hp;obtain⟨⟨hpl,hid,hd,ht0⟩,hs,hh,ha,hm1,hm2,hl1,hl2,hm,hr,hi⟩:=hp;have cn:∀{l:List Int},countsP p l->countsP (qf p h) l:=λhq=>by refine⟨λj hj=>?_,hq.2.1,hq.2.2⟩;show p.delay-1<=_/\_<=p.turn+1+16/\_;have:=hq.1 j hj;omega
 have hcl:=hc.1;have hct:=hc.2;have hlen:(qf p h).hashes.length<=16/\(qf p h).hashes.length<=p.hashes.length+1:=by
  unfold qf;dsimp only;split
  ·rw[Fbj,Fab,Fan];omega
  ·rw[Fab,Fan];omega
 refine⟨⟨hpl,hid,hd,?_⟩,⟨hs.1,?_,hs.2.2⟩,cn hh,cn ha,?_,hm2,hlen.1,?_,hm,ykq hr _,inputs_iff.2 λx hx=>?_⟩
 ·show 0<=p.turn+1/\p.turn+1<=maxT;omega
 ·show p.said<=p.turn+1+p.delay-1;omega
 ·show p.turn+1-1<=yv p.has;omega
 ·have:=hlen.2;show((qf p h).hashes.length:Int)<=p.turn+1;omega
 ·obtain⟨hx1,hx2⟩:=Fbc.1 (show x∈Ch p.turn p.inputs from hx);obtain⟨a1,a2,a3⟩:=inputs_iff.1 hi x hx1;have:x.t≠p.turn:=by simpa using hx2
  exact⟨(show p.turn+1<=x.t by omega),a2,a3⟩
def m6{n:Nte}(h:jm p n=0):qe p/\Cg n/\n.dst=p.id/\n.src<=p.players/\n.inp.t<=p.turn+16:=by
 unfold jm at h;by_cases h1:¬qe p\/¬Cg n\/n.dst≠p.id\/n.src>p.players
 ·rw[if_pos h1]at h;cases h
 ·rw[if_neg h1]at h;by_cases h2:n.inp.t>p.turn+16
  ·rw[if_pos h2]at h;cases h
  ·exact⟨Classical.byContradiction λhh=>h1 (.inl hh),Classical.byContradiction λhh=>h1 (.inr (.inl hh)),Classical.byContradiction λhh=>h1 (.inr (.inr (.inl hh))),Classical.byContradiction λhh=>h1 (.inr (.inr (.inr θ))),θ⟩
def sy(hp:qe p){n:Nte}(hn:Cg n)(hpl:n.src<=p.players)(c6:n.inp.t=p.has.getD (n.src-1).toNat 0+1):Aa n.inp/\n.inp.p=n.src/\¬Bf p.inputs n.inp:=by
 obtain⟨h0,h0a,hih,hia⟩:=O2 p hp;have hsl:(n.src-1).toNat<p.has.length:=by have h1:=hn.1;have h2:=hp.2.2.1.2.1;omega
 have hgh:p.has.getD (n.src-1).toNat 0=p.has[(n.src-1).toNat]:=by rw[Fap,Fac hsl];rfl
 have hhb:=hp.2.2.1.1 _ hsl;have hde:=hp.1.2.2.1;have hn7:=hn.2.2.2.2.2.2;rw[hgh]at c6;rw[if_neg θ]at hn7;refine⟨hn7.1,hn7.2,?_⟩;rintro⟨y,hy,hy1,hy2⟩;have g2:=(inputs_iff.1 hp.2.2.2.2.2.2.2.2.2.2 y hy).2.2;rw[hy2,hn7.2]at g2;have:=g2 hsl;omega
def zv3{n:Nte}(he:jm p n=0):qe (jf p n):=by
 obtain⟨hp,hn,hds,hsp,htu⟩:=m6 he;unfold jf;split
 ·rename_i c6;obtain⟨hip,hpp,hno⟩:=sy hp hn hsp c6;obtain⟨h0,h0a,hih,hia⟩:=O2 p hp;have hsl:(n.src-1).toNat<p.has.length:=by
   have h1:=hn.1;have h2:=hp.2.2.1.2.1;omega
  have hgh:p.has.getD (n.src-1).toNat 0=p.has[(n.src-1).toNat]:=by rw[Fap,Fac hsl];rfl
  obtain⟨⟨hpl,hid,hd,ht0⟩,hs,hh,ha,hm1,hm2,hl1,hl2,hm,hr,hi⟩:=hp;have hhb:=hh.1 _ hsl;have hit:=hip.1;rw[hgh]at c6⊢;have hne:n.src≠n.dst:=hn.2.2.1;have hs1:=hn.1;have hio:(n.src-1).toNat≠(p.id-1).toNat:=θ;refine⟨⟨hpl,hid,hd,ht0⟩,hs,W9 hh rfl rfl rfl ⟨θ,θ,θ⟩ (λh=>?_),⟨ha.1,ha.2.1,ha.2.2⟩,?_,hm2,hl1,hl2,hm,zdg hr hip hno,inputs_iff.2 λx hx=>?_⟩
  ·rw[Fc0 hio];show p.has[(p.id-1).toNat]?=some p.said;rw[Fac hih,hh.2.2 hih]
  ·refine V3 (by rw[Fak];exact h0) λx hx=>?_;show p.turn-1<=x;rcases mem_set hx with rfl|hx
   ·have:=Bt (Faa hsl);omega
   ·exact Fd6 hm1 (Bt hx)
  ·show p.turn<=x.t/\x.p<=p.players/\∀h:(x.p-1).toNat<(p.has.set (n.src-1).toNat (p.has[(n.src-1).toNat]+1)).length,x.t<=(p.has.set (n.src-1).toNat (p.has[(n.src-1).toNat]+1))[(x.p-1).toNat]
   rcases mem_insI.1 hx with rfl|hx
   ·refine⟨by have:=Bt (Faa hsl);omega,θ,λh=>?_⟩;simp only[hpp,Fcs];omega
   ·obtain⟨a1,a2,a3⟩:=inputs_iff.1 hi x hx;refine⟨a1,a2,λh=>?_⟩;rw[Fak]at h;have:=a3 h;rw[Fcl];split
    ·rename_i e;have e2:p.has[(x.p-1).toNat]=p.has[(n.src-1).toNat]:=by congr 1;exact e.symm
     omega
    ·exact this
 ·exact hp
def ypm(hp:qe p){f:Nat}(hf:f<p.acked.length)(hfi:f≠(p.id-1).toNat)(x:Int):qe (qy p f x):=by
 obtain⟨h0,h0a,hih,hia⟩:=O2 p hp;unfold qy;split
 ·exact hp
 rename_i hc;have hga:p.acked.getD f 0=p.acked[f]:=by rw[Fap,Fac hf];rfl
 rw[hga]at hc;obtain⟨⟨hpl,hid,hd,ht0⟩,hs,hh,ha,hm1,hm2,hl1,hl2,⟨hm3,hm4⟩,hr,hi⟩:=hp;have hab:=ha.1 _ hf;have hl0:0<(p.acked.set f x).length:=by rw[Fak];exact h0a
 have m1:yv p.acked<=yv (p.acked.set f x):=V3 hl0 λy hy=>by
  rcases mem_set hy with rfl|hy
  ·have:=Bt (Faa hf);omega
  ·exact Bt hy
 have m2:yv (p.acked.set f x)<=p.said:=by
  have:(p.acked.set f x)[(p.id-1).toNat]'(by rw[Fak];exact hia)=p.said:=by rw[List.getElem_set_ne hfi,ha.2.2 hia]
  rw[<-this];exact Bt (Faa _)
 have ed:p.mine.filter (nq λi=>decide (i.t<=yv (p.acked.set f x)))=p.mine.drop (yv (p.acked.set f x)+1-(p.said-p.mine.length+1)).toNat:=zek λj hj=>(hm4 j hj).2.2;refine⟨⟨hpl,hid,hd,ht0⟩,hs,⟨hh.1,hh.2.1,hh.2.2⟩,W9 ha rfl rfl rfl ⟨θ,θ,θ⟩ (λh=>?_),hm1,?_,hl1,hl2,⟨?_,λj hj=>?_⟩,hr,hi⟩
 ·rw[Fc0 hfi];show p.acked[(p.id-1).toNat]?=some p.said;rw[Fac hia,ha.2.2 hia]
 ·refine zcw hl0 λy hy=>?_;show y<=p.said;rcases mem_set hy with rfl|hy
  ·omega
  ·have:=lq hy;omega
 ·show((p.mine.filter _).length:Int)=p.said-yv (p.acked.set f x);rw[ed,Fbj];omega
 ·show Aa (p.mine.filter _)[j]/\(p.mine.filter _)[j].p=p.id/\(p.mine.filter _)[j].t=p.said-((p.mine.filter _).length:Int)+1+j;have hj2:j<(p.mine.filter (nq λi=>decide (i.t<=yv (p.acked.set f x)))).length:=hj;simp only[ed]at hj2⊢;rw[Fbj]at hj2;rw[List.getElem_drop,Fbj];have:=hm4 ((yv (p.acked.set f x)+1-(p.said-p.mine.length+1)).toNat+j) θ;exact⟨this.1,this.2.1,by rw[this.2.2];omega⟩
def s7(n:Nte):(jf p n).id=p.id/\(jf p n).players=p.players/\(jf p n).turn=p.turn/\(jf p n).said=p.said/\(jf p n).acked=p.acked/\(jf p n).mine=p.mine/\(jf p n).hashes=p.hashes/\(jf p n).delay=p.delay/\(jf p n).split=p.split:=by unfold jf;split<;>exact⟨rfl,rfl,rfl,rfl,rfl,rfl,rfl,rfl,rfl⟩
def zv0{n:Nte}(he:jm p n=0):qe (xi p n):=by obtain⟨hp,hn,hds,hsp,htu⟩:=m6 he;have h1:=zv3 he;obtain⟨e1,e2,_,_,e5,_⟩:=s7 (p:=p) n;obtain⟨h0,h0a,hih,hia⟩:=O2 p hp;have hs1:=hn.1;have hne:n.src≠n.dst:=hn.2.2.1;have hid:=hp.1.2.1;have hac:=hp.2.2.2.1.2.1;exact ypm h1 (f:=(n.src-1).toNat) (by rw[e5];omega) (by rw[e1];omega) n.have_
end
structure Act30 where
 K:Int
 P:Int
 N:Int
 I:Int
 C:List Cmd
structure Pee where
 p:Per
 w:Wld
 h:List Int
structure Pty where
 X:List Pee
 m:List Nte
 log:List Frm
def One.core(o:One):Pee:=⟨o.p,o.w,o.h⟩
noncomputable def Pee.next(o:Pee):Wld:=Dz o.w (xl o.p)
noncomputable def Pee.run(o:Pee):Pee:=⟨qf o.p (jg o.next),o.next,o.h++[jg o.next]⟩
open Classical in
noncomputable def ww(k:Nat):Nat->Pty->Pty
 |0,σ=>σ
 |n+1,σ=>match σ.X[k]? with
  |none=>σ
  |some o=>if Bj o.p then ww k n ⟨σ.X.set k o.run,σ.m,if k=0 then σ.log++[⟨o.p.turn,xl o.p,jg o.next⟩]else σ.log⟩else σ
noncomputable def Bb(k:Nat)(σ:Pty):Pty:=match σ.X[k]? with
 |none=>σ
 |some o=>ww k 4 {σ with m:=σ.m++jj o.p o.p.players.toNat}
noncomputable def Bw(σ:Pty)(n:Nte):Pty:=match σ.X[(n.dst-1).toNat]? with
 |none=>σ
 |some o=>if jm o.p n=0 then{σ with X:=σ.X.set (n.dst-1).toNat {o with p:=xi o.p n}}else σ
noncomputable def Cb(σ:Pty):Pty:=(List.range σ.X.length).foldl (fun σ k=>Bb k σ) σ
noncomputable def Nv(σ:Pty):Pty:=(Cb σ).m.foldl Bw {Cb σ with m:=[]}
noncomputable def I1:Nat->Pty->Pty
 |0,σ=>σ
 |n+1,σ=>I1 n (Nv σ)
def ofP(k:Int)(l:List Cmd):List Cmd:=l.map λc=>{c with P:=k}
noncomputable def Km(k:Nat)(l:List Cmd)(σ:Pty):Pty:=match σ.X[k]? with
 |none=>σ
 |some o=>if jo o.p (ofP ((k:Int)+1) l)=0 then{σ with X:=σ.X.set k {o with p:=jc o.p (ofP ((k:Int)+1) l)}}else σ
noncomputable def Gs(K N:Int)(σ:Pty):Pty:=match σ.m[(N%σ.m.length).toNat]? with
 |none=>σ
 |some x=>if K=4 then{σ with m:=σ.m++[x]}else
  if K=3 then Bw {σ with m:=σ.m.eraseIdx (N%σ.m.length).toNat} x else{σ with m:=σ.m.eraseIdx (N%σ.m.length).toNat}
noncomputable def Fh(σ:Pty)(a:Act30):Pty:=
 if a.K=1 then(if 1<=a.P/\a.P<=σ.X.length then Km (a.P-1).toNat a.C σ else σ)else
 if a.K=2 then(if 1<=a.P/\a.P<=σ.X.length then Bb (a.P-1).toNat σ else σ)else
 if a.K=3\/a.K=4\/a.K=5 then Gs a.K a.N σ else
 if a.K=6 then(if a.N<=60 then I1 a.N.toNat σ else σ)else σ
structure PtyOK(n d:Int)(B:Nat)(σ:Pty):Prop where
 n8:1<=n/\n<=8
 len:(σ.X.length:Int)=n
 peer:∀(i:Nat) (o:Pee),σ.X[i]?=some o->(o.p.id=(i:Int)+1/\o.p.players=n/\o.p.delay=d)/\qe o.p/\playW o.w/\o.p.turn=o.h.length/\o.h.length<=B
 note:∀x∈σ.m,Cg x/\x.src<=n/\x.dst<=n
 lm:σ.m.length<=B
 ll:σ.log.length<=B
def Pp{α:Type}{l:List α}{k i:Nat}{a b:α}(h:(l.set k a)[i]?=some b):(i=k/\b=a)\/(i≠k/\l[i]?=some b):=by
 rw[Fdm]at h;split at h
 ·rename_i e;split at h
  ·exact .inl ⟨e.symm,(Option.some.inj h).symm⟩
  ·cases h
 ·rename_i e;exact .inr ⟨λq=>e q.symm,h⟩
def Vo{p:Per}{x:Nte}:∀{n:Nat},x∈jj p n->∃k,k<n/\((k+1:Nat):Int)≠p.id/\x=D3 p (k+1)
 |0,h=>nomatch h
 |n+1,h=>by
  rcases Fas.1 h with h|h
  ·obtain⟨k,h1,h2⟩:=Vo h;exact⟨k,θ,h2⟩
  ·split at h
   ·cases h
   ·rename_i e;exact⟨n,θ,e,Fbo.1 h⟩
def zb1(p:Per)(k:Nat):(D3 p k).inp=inp0\/(D3 p k).inp∈p.mine:=by
 show(p.mine.find? (Dl p k)).getD inp0=inp0\/(p.mine.find? (Dl p k)).getD inp0∈p.mine;cases h:p.mine.find? (Dl p k)with
 |none=>exact .inl rfl
 |some x=>exact .inr (Fc5 h)
section
variable {n d:Int} {B:Nat} {σ:Pty}
def PtyOK.up(h:PtyOK n d B σ){C:Nat}(hc:B<=C):PtyOK n d C σ:=
 ⟨h.n8,h.len,λi o ho=>by obtain⟨a,b,c,e,f⟩:=h.peer i o ho;exact⟨a,b,c,e,θ⟩,h.note,Fb6 h.lm hc,Fb6 h.ll hc⟩
def PtyOK.setp(h:PtyOK n d B σ){k:Nat}{o:Pee}(ho:σ.X[k]?=some o){p:Per}(hp:qe p)(e:p.id=o.p.id/\p.players=o.p.players/\p.delay=o.p.delay/\p.turn=o.p.turn):PtyOK n d B {σ with X:=σ.X.set k {o with p:=p}}:=by
 refine⟨h.n8,by rw[Fak];exact h.len,λi x hx=>?_,h.note,h.lm,h.ll⟩;rcases Pp hx with⟨rfl,rfl⟩|⟨_,hx⟩
 ·obtain⟨⟨a1,a2,a3⟩,b,c,f,g⟩:=h.peer i o ho;exact⟨⟨e.1.trans a1,e.2.1.trans a2,e.2.2.1.trans a3⟩,hp,c,e.2.2.2.trans f,g⟩
 ·exact h.peer i x hx
def ydk(h:PtyOK n d B σ)(k:Nat)(l:List Cmd):PtyOK n d B (Km k l σ):=by
 unfold Km;split
 ·exact h
 rename_i o ho;split
 ·rename_i he;exact h.setp ho (ya9 he) ⟨rfl,rfl,rfl,rfl⟩
 ·exact h
def zv2(p:Per)(n:Nte):(xi p n).id=p.id/\(xi p n).players=p.players/\(xi p n).delay=p.delay/\(xi p n).turn=p.turn:=by unfold xi qy jf;dsimp only;split<;>split<;>exact⟨rfl,rfl,rfl,rfl⟩
def gi(h:PtyOK n d B σ)(x:Nte):PtyOK n d B (Bw σ x):=by
 unfold Bw;split
 ·exact h
 rename_i o ho;split
 ·rename_i he;exact h.setp ho (zv0 he) (zv2 o.p x)
 ·exact h
def Vg(k:Nat):∀(c:Nat) {B:Nat} {σ:Pty},PtyOK n d B σ->PtyOK n d (B+c) (ww k c σ)
 |0,B,σ,h=>h
 |c+1,B,σ,h=>by
  unfold ww;split
  ·exact h.up θ
  rename_i o ho;split
  ·rename_i hc;rw[show B+(c+1)=B+1+c by omega];refine Vg k c ⟨h.n8,by rw[Fak];exact h.len,λi x hx=>?_,h.note,by have:=h.lm;dsimp only;omega,?_⟩
   ·rcases Pp hx with⟨rfl,rfl⟩|⟨_,hx⟩
    ·obtain⟨a,b,c,f,g⟩:=h.peer i o ho;refine⟨a,yct b hc _,zbb c _,?_,?_⟩
     ·show o.p.turn+1=((o.h++[_]).length:Nat)
      rw[Fab,Fan];omega
     ·show(o.h++[_]).length<=_;rw[Fab,Fan];omega
    ·obtain⟨a,b,c,f,g⟩:=h.peer i x hx;exact⟨a,b,c,f,θ⟩
   ·have:=h.ll;dsimp only;split
    ·rw[Fab,Fan];omega
    ·omega
  ·exact h.up θ
def yew{x:Nte}(h:Cg x):x.inp.fits/\small x.inp.C:=by
 have h7:=h.2.2.2.2.2.2;split at h7
 ·rw[Inp.fits,small,h7.2];exact⟨⟨Fae _,λc hc=>(nomatch hc)⟩,Fae _,λc hc=>(nomatch hc)⟩
 ·exact Wb h7.1
def ia{i:Nat}{o:Pee}(hp:(o.p.id=(i:Int)+1/\o.p.players=n/\o.p.delay=d)/\qe o.p){x:Nte}(hx:x∈jj o.p o.p.players.toNat):Cg x/\x.src<=n/\x.dst<=n:=by
 obtain⟨k,h1,h2,rfl⟩:=Vo hx;obtain⟨⟨a1,a2,a3⟩,b⟩:=hp;have hpl:=b.1.1;have hid:=b.1.2.1;have htu:=b.1.2.2.2;have hhl:=b.2.2.1.2.1;have hhs:=b.2.2.2.2.2.2.2.1;have hk:k<o.p.has.length:=θ;have hh:=b.2.2.1.1 k hk;have e1:(D3 o.p (k+1)).src=o.p.id:=rfl;have e2:(D3 o.p (k+1)).dst=((k+1:Nat):Int):=rfl;have e3:(D3 o.p (k+1)).done=if o.p.hashes=[]then -1 else o.p.turn-1:=rfl
 have e4:(D3 o.p (k+1)).have_=o.p.has.getD k 0:=rfl;have e5:(D3 o.p (k+1)).hash=o.p.hashes.getLastD 0:=rfl;have hde:=b.1.2.2.1;refine⟨⟨?_,?_,?_,?_,?_,?_,?_⟩,θ,θ⟩
 ·rw[e1];unfold plrP;omega
 ·rw[e2];unfold plrP;omega
 ·rw[e1,e2];exact λe=>h2 e.symm
 ·rw[e3];unfold trnP;split<;>omega
 ·rw[e4,Fap,Fac hk];unfold trnP;show -1<=o.p.has[k]/\o.p.has[k]<=maxT;omega
 ·rw[e3,e5];by_cases e:o.p.hashes=[]
  ·rw[e];exact λh=>h.2 rfl
  ·have:=Fco.2 e;rw[if_neg e];omega
 ·rcases zb1 o.p (k+1)with e|e
  ·rw[e,if_pos (show inp0.t=-1 from rfl)];exact⟨rfl,rfl⟩
  ·obtain⟨j,hj,e⟩:=Faf e;have h3:=b.2.2.2.2.2.2.2.2.1.2 j hj;rw[<-e,if_neg (by have:=h3.1.1;omega)];exact⟨h3.1,h3.2.1⟩
def ge(h:PtyOK n d B σ)(k:Nat):PtyOK n d (B+12) (Bb k σ):=by
 unfold Bb;split
 ·exact h.up θ
 rename_i o ho;obtain⟨a,b,c,e,f⟩:=h.peer k o ho;have hl:=O6 o.p o.p.players.toNat;refine Vg k 4 (B:=B+8) ⟨h.n8,h.len,(h.up (C:=B+8) θ).peer,λx hx=>?_,?_,by have:=h.ll;dsimp only;omega⟩
 ·rcases Fas.1 hx with hx|hx
  ·exact h.note x hx
  ·exact ia ⟨a,b⟩ hx
 ·have h1:=h.lm;have h2:=h.n8;dsimp only;rw[Fab];omega
def Vf(h:PtyOK n d B σ):∀c,PtyOK n d (B+12*c) ((List.range c).foldl (fun σ k=>Bb k σ) σ)
 |0=>h
 |c+1=>by rw[Fc7,Fcp];exact ge (Vf h c) c
def gk(h:PtyOK n d B σ):PtyOK n d (B+96) (Cb σ):=(Vf h σ.X.length).up (by have:=h.len;have:=h.n8;omega)
def gg:∀(l:List Nte) {σ:Pty},PtyOK n d B σ->PtyOK n d B (l.foldl Bw σ)
 |[],_,h=>h
 |x::l,_,h=>gg l (gi h x)
def PtyOK.m0(h:PtyOK n d B σ):PtyOK n d B {σ with m:=[]}:=⟨h.n8,h.len,h.peer,λx hx=>(nomatch hx),Fae _,h.ll⟩
def gj(h:PtyOK n d B σ):PtyOK n d (B+96) (Nv σ):=gg _ (gk h).m0
def za5:∀(c:Nat) {B:Nat} {σ:Pty},PtyOK n d B σ->PtyOK n d (B+96*c) (I1 c σ)
 |0,B,σ,h=>h
 |c+1,B,σ,h=>by have:=za5 c (gj h);rw[show B+96*(c+1)=B+96+96*c by omega];exact this
def ydl(h:PtyOK n d B σ)(K N:Int):PtyOK n d (B+1) (Gs K N σ):=by
 have he:∀j,PtyOK n d (B+1) {σ with m:=σ.m.eraseIdx j}:=λj=>(h.up (C:=B+1) θ) |> λg=>⟨g.n8,g.len,g.peer,λx hx=>h.note x (Fcw hx),by have:=Feq σ.m j;have:=g.lm;dsimp only;omega,g.ll⟩
 unfold Gs;split
 ·exact h.up θ
 rename_i x hx;split
 ·refine⟨h.n8,h.len,(h.up (C:=B+1) θ).peer,λy hy=>?_,?_,by have:=h.ll;dsimp only;omega⟩
  ·rcases Fas.1 hy with hy|hy
   ·exact h.note y hy
   ·rw[Fbo.1 hy];exact h.note x (Fa5 hx)
  ·have:=h.lm;dsimp only;rw[Fab,Fan];omega
 ·split
  ·exact gi (he _) x
  ·exact he _
def za6(h:PtyOK n d B σ)(a:Act30):PtyOK n d (B+5760) (Fh σ a):=by
 unfold Fh;split
 ·split
  ·exact(ydk h _ _).up θ
  ·exact h.up θ
 split
 ·split
  ·exact(ge h _).up θ
  ·exact h.up θ
 split
 ·exact(ydl h _ _).up θ
 split
 ·split
  ·exact(za5 _ h).up θ
  ·exact h.up θ
 ·exact h.up θ
end
def ymi(l:List Cmd)(hl:small l):Jb 101 [lst 10 z6 l] Store.empty λr N=>(l=[]/\r=lst 10 z6 []/\N=Store.empty)∨
  ∃b cap L,r=.s (.slice (some ⟨b,0,none⟩) l.length cap)/\N=Store.empty.sO b (.cells ((rws z6 l).flatten++L))/\l.length<=cap/\l≠[]:=by
 have hlen:=hl.1;refine Qy 18 Tryz.func101 ?_;refine AWp.loop (σ:=Nat×AV) ⟨λx=>[(2,.av x.2),(5,.av (lst 10 z6 l)),(6,.av (int (l.length:Nat))),(7,.av (int (x.1:Nat)))],λ_=>[],λx st'=>x.1<=l.length/\RowsO 10 z6 st' x.2 (l.take x.1),λx=>l.length-x.1⟩ zb ?_ ?_
 ·refine⟨(0,_),Tv,⟨Fae _,.inl ⟨rfl,rfl⟩⟩,⟨Tq,Tq,?_,Tq,Tv⟩,Tv⟩;rw[<-zj (f:=z6) l];exact Tq
 rintro⟨i,v⟩ st' ⟨hi,ha⟩;dsimp only at hi ha⊢;refine bcd (λc1=>?_) (λc1=>?_);rotate_left
 ·have:i=l.length:=θ;subst this;rw[Faj]at ha;rcases ha with⟨rfl,rfl⟩|⟨b,cap,L,rfl,ho,h1,h2,h3⟩
  ·exact⟨_,Store.empty,AV.le_nil 10,hasE _,.inl ⟨rfl,rfl,rfl⟩⟩
  ·by_cases hne:l=[]
   ·subst hne;exact⟨lst 10 z6 [],Store.empty,λw T x hx=>by cases hx;exact VRel.lst [] none b 0 cap 10 (λ_=>undef) (Fae _) (λi row h=>ω) (λ_ h=>ω) (λi row j x h=>ω) (λi row j x h=>ω) (λi row j x h=>ω),hasE _,.inl ⟨rfl,rfl,rfl⟩⟩
   ·refine⟨_,Store.empty.sO b (.cells ((rws z6 l).flatten++L)),Tt,⟨λb' x hx=>?_,λb' y hy=>?_⟩,.inr ⟨b,cap,L,rfl,rfl,h1,hne⟩⟩
    ·by_cases e:b'=b
     ·subst e;rw[zd]at hx;rw[ho];exact hx
     ·rw[zg e]at hx;cases hx
    ·cases hy
 have hlt:i<l.length:=θ;refine⟨i,rfl,za _ (zr hlt) (zfa l[i] (by have:=hl.2 _ (Faa hlt);omega) _ _ ⟨ψ,Cn (ie:=ti136) rfl (λ_=>rfl) ψ ha.q l[i] rfl θu (λb cap L h5 h6 h7 h8=>Qd ⟨(i+1,_),(show l.length-(i+1)<l.length-i by omega),⟨hlt,?_⟩,⟨Tq,Tq,Tq,Tq,Tv⟩,Tv⟩)⟩)⟩;dsimp only;rw[Fad hlt];exact .inr ⟨b,cap,L,rfl,zd _ _ _,h6,h7,h8⟩
def ym1(x:Cmd):∀y∈z6 x,y.one=true:=by intro y hy;simp only[z6,Fax,Fb4,or_false]at hy;rcases hy with rfl|rfl|rfl|rfl|rfl|rfl|rfl|rfl|rfl|rfl<;>rfl
def D5(k:Int)(l:List Cmd)(j:Nat):List Cmd:=ofP k (l.take j)++l.drop j
theorem yfo(k:Int)(l:List Cmd)(j:Nat):(D5 k l j).length=l.length:=by unfold D5 ofP;rw[Fab,Fam,<-Fab,Fbs]
theorem yfp(k:Int)(l:List Cmd):D5 k l l.length=ofP k l:=by unfold D5;rw[Faj,Fev,Fbh]
def yfn{k:Int}{l:List Cmd}{j:Nat}(h:j<l.length):D5 k l (j+1)=(D5 k l j).set j {l[j]with P:=k}/\(D5 k l j)[j]?=some l[j]:=by
 have h1:(ofP k (l.take j)).length=j:=by unfold ofP;rw[Fam,Fah];omega
 unfold D5;rw[Fc6 h];constructor
 ·rw[Fad h,List.set_append_right _ _ θ,h1,Fc8,List.set_cons_zero];unfold ofP;rw[Faz,Fat];rfl
 ·rw[Fa6 θ,h1,Fc8];rfl
def zae{q:Prop}(h:q:=by
 have h0:=Bd hg;have hq0:=Gj hg hi;refine Qbc ?_;refine⟨i,rfl,za _ (vg _ hi) ?_⟩;refine za (o:=S2.obj X[i].q) _ hq0 ?_;refine ydn X[i].p (ofP ((i:Int)+1) l) hf hs (by unfold ofP;rw[Fam];omega) ?_ ?_ _ _ (λhbad=>?_) (λhok=>?_)
 ·intro c hc;obtain⟨x,hx,rfl⟩:=Fag.1 hc;exact Fb6 (hls.2 x hx) ψ
 ·refine⟨by unfold ofP;rw[Fam];exact hll,λc hc=>?_⟩;obtain⟨x,hx,rfl⟩:=Fag.1 hc;exact hls.2 x hx
 ·refine zu (λc=>absurd c hbad) (λc=>?_);exact ret (hR X[i] S2 (if_neg hbad).symm (by rw[Fdf];exact hg))
 ·refine Qc zb zxn ?_;refine Qbc ?_;refine⟨i,rfl,za _ (vg _ hi) ?_⟩;have h6:=((hg.at 9 rfl).at (P:=xp X[i].q (zo X[i].p++[ptr X[i].eb])) i (vg _ hi)).store (zo (jc X[i].p (ofP ((i:Int)+1) l))++[ptr X[i].eb]);refine⟨?_,Tv⟩;refine za _ rfl (xa rfl (qz (v:=.agg (zo (jc X[i].p (ofP ((i:Int)+1) l)))) rfl rfl rfl rfl ?_));refine j4 (i:=ti63) (v:=.agg (zo (jc X[i].p (ofP ((i:Int)+1) l)))) (xs:=zo (jc X[i].p (ofP ((i:Int)+1) l))) (b:=X[i].q) (o:=0) (l:=zo X[i].p++[ptr X[i].eb]) rfl rfl rfl hq0 (show 0+11<=12 by decide) ?_;rw[show zq (zo X[i].p++[ptr X[i].eb]) 0 (zo (jc X[i].p (ofP ((i:Int)+1) l)))=zo (jc X[i].p (ofP ((i:Int)+1) l))++[ptr X[i].eb]from rfl];generalize S2.sO X[i].q _=S3 at h6⊢;refine⟨Tv,?_⟩;refine ret (hR {X[i]with p:=jc X[i].p (ofP ((i:Int)+1) l)} S3 (by rw[if_pos hok]) (Ve hi _ rfl h6))):q:=h
section
variable {room:Int} {s hb:Nat} {X:List One} {vp vm vT vW vS vl:AV} {m:List Nte} {log:List Frm} {T:List Int} {W:List Wld} {D:List Bool} {S:Store}
def ya7(h:Sp (qv room s hb X vp vm vT vW vS vl m log T W D) S){i:Nat}(hi:i<X.length)(hX:X.length<=8)(l:List Cmd)(hls:small l)(hf:X[i].p.fits)(hs:vz X[i].p)(R:Ja)
  (hR:∀o S2,o=(if jo X[i].p (ofP ((i:Int)+1) l)=0 then{X[i]with p:=jc X[i].p (ofP ((i:Int)+1) l)}else X[i])->Sp (qv room s hb (X.set i o) vp vm vT vW vS vl m log T W D) S2->R (.tup []) S2):Jb 66 [ptr s,int i,lst 10 z6 l] S R:=by
 obtain⟨t,rfl⟩:=Ks h (λe=>ψv);have hll:=hls.1;refine Qb (c:=cfg 50) zb Tryz.func66 ?_;refine AWp.seq (AWp.of_vc zb ?_);refine Oy (ymi l hls) _ _ ?_;rintro v N (⟨hl0,rfl,rfl⟩|⟨b,cap,L,rfl,rfl,hc,hne⟩) hd
 ·rw[unE];rw[show lst 10 z6 []=lst 10 z6 (ofP ((i:Int)+1) l) by rw[hl0];rfl];refine AWp.seq (AWp.of_vc zb ?_);refine AWp.loop (σ:=Unit) ⟨λj=>[(0,.av (ptr s)),(1,.av (int (i:Nat))),(2,.av (lst 10 z6 (ofP ((i:Int)+1) l))),(12,.av (int 0)),(13,.av (int 0))],λ_=>[],λ_ S'=>S'=S,λ_=>0⟩ zb ?_ ?_
  ·refine⟨(),Tv,rfl,⟨Tq,Tq,Tq,?_,Tq,Tv⟩,Tv⟩;rw[hl0];exact Tq
  rintro _ S2 rfl;have hg:=h;refine AWp.of_vc zb ?_;exact zae
 ·have h1:=Sp.more (P:=xp b ((rws z6 l).flatten++L)) rfl h hd;generalize Store.un _ S=S1 at h1⊢;refine AWp.seq (AWp.of_vc zb ?_)
  refine AWp.loop (σ:=Nat) ⟨λj=>[(0,.av (ptr s)),(1,.av (int (i:Nat))),(2,.av (.s (.slice (some ⟨b,0,none⟩) l.length cap))),(12,.av (int (l.length:Nat))),(13,.av (int (j:Nat)))],λ_=>[],
   λj S'=>j<=l.length/\Sp (xp b ((rws z6 (D5 ((i:Int)+1) l j)).flatten++L)::qv room s hb X (.lst 1 (X.map λo=>[ptr o.q]) (some t)) vm vT vW vS vl m log T W D) S',λj=>l.length-j⟩ zb ?_ ?_
  ·exact⟨0,Tv,⟨Fae _,h1⟩,Qax,Tv⟩
  clear h1;rintro j S' ⟨hj,h1⟩;refine bcd (λc1=>?_) (λc1=>?_)
  ·have hlt:j<l.length:=θ;obtain⟨e1,e2⟩:=yfn (k:=(i:Int)+1) hlt;have hml:j<(D5 ((i:Int)+1) l j).length:=by rw[yfo];exact hlt
   refine Qd ⟨j,rfl,hlt,?_⟩;refine yg (i:=ti2) (v:=int ((i:Int)+1)) (b:=b) (o:=0+j*10+0) (st2:=S'.sO b (.cells ((rws z6 (D5 ((i:Int)+1) l (j+1))).flatten++L))) rfl rfl rfl (h1.at 0 rfl).obj (by rw[Fab,yx (k:=10) (λ_=>rfl)];omega) (by rw[Fba,e1];refine congrArg _ (congrArg _ (ew (f:=z6) (k:=10) (λ_=>rfl) hml (show 0+1<=10 by decide) ?_));rw[Fac hml]at e2;rw[Option.some.inj e2];rfl) ?_;have h2:=(h1.at 0 rfl).store ((rws z6 (D5 ((i:Int)+1) l (j+1))).flatten++L);exact Qd ⟨j+1,(show l.length-(j+1)<l.length-j by omega),⟨hlt,h2⟩,Qax,Tv⟩
  ·have:j=l.length:=θ;subst this;rw[yfp]at h1;obtain⟨ho,ht,hg⟩:=ymd h1;refine AWp.freezeL (d:=2) (b:=b) (k:=10) (n:=l.length) (cap:=cap) (rows:=rws z6 (ofP ((i:Int)+1) l)) (pad:=L) rfl ho ht (by rw[zj,ofP,Fam]) hc (λrow hr=>by
    obtain⟨x,_,rfl⟩:=Fag.1 hr;rfl) (λrow hr y hy=>by
    obtain⟨x,_,rfl⟩:=Fag.1 hr;exact ym1 x y hy) ?_
   generalize S'.dO b=S2 at hg⊢;refine AWp.of_vc zb ?_;exact zae
end
def Dg{q:Prop}(h:q:=by repeat(first|exact Tv|refine⟨rfl,?_⟩|refine⟨za (o:=Store.obj _ s) _ h0 rfl,?_⟩|refine⟨za (o:=Store.obj _ X[i].q) _ hq0 rfl,?_⟩|refine⟨ze θ rfl,?_⟩|refine⟨⟨i,hdi,za _ (vg _ hi) rfl⟩,?_⟩)):q:=h
def zfm{q:Prop}(h:q:=by exact zu (λc=>absurd c hbad) (λc=>ret (hR X[i] S (if_neg hbad).symm (by rw[Fdf];exact h)))):q:=h
def zfl{q:Prop}(h:q:=by refine Qc zb yaz ?_;refine Qbc ?_;refine Qd ?_;refine⟨i,hdi,za _ (vg _ hi) ?_⟩;have h6:=((h.at 9 rfl).at (P:=xp X[i].q (zo X[i].p++[ptr X[i].eb])) i (vg _ hi)).store (zo (xi X[i].p n)++[ptr X[i].eb]);refine⟨?_,Tv⟩;refine za _ rfl (xa rfl (qz (v:=.agg (zo (xi X[i].p n))) rfl rfl rfl rfl ?_));refine j4 (i:=ti63) (v:=.agg (zo (xi X[i].p n))) (xs:=zo (xi X[i].p n)) (b:=X[i].q) (o:=0) (l:=zo X[i].p++[ptr X[i].eb]) rfl rfl rfl hq0 (show 0+11<=12 by decide) ?_;rw[show zq (zo X[i].p++[ptr X[i].eb]) 0 (zo (xi X[i].p n))=zo (xi X[i].p n)++[ptr X[i].eb]from rfl];generalize S.sO X[i].q _=S3 at h6⊢;refine⟨Tv,?_⟩;exact ret (hR {X[i]with p:=xi X[i].p n} S3 (by rw[if_pos hok]) (Ve hi _ rfl h6))):q:=h
section
variable {room:Int} {s hb:Nat} {X:List One} {vp vm vT vW vS vl:AV} {m:List Nte} {log:List Frm} {T:List Int} {W:List Wld} {D:List Bool} {S:Store}
def ymu(h:Sp (qv room s hb X vp vm vT vW vS vl m log T W D) S)(n:Nte){i:Nat}(hd:n.dst=(i:Int)+1)(hi:i<X.length)(hX:X.length<=8)(hf:X[i].p.fits)(hs:vz X[i].p)(hnf:n.inp.fits)(hnx:small n.inp.C)(R:Ja)
  (hR:∀o S2,o=(if jm X[i].p n=0 then{X[i]with p:=xi X[i].p n}else X[i])->Sp (qv room s hb (X.set i o) vp vm vT vW vS vl m log T W D) S2->R (.tup []) S2):Jb 106 [ptr s,.agg (ye n)] S R:=by
 obtain⟨t,rfl⟩:=Ks h (λe=>ψv);have h0:=Bd h;have hq0:=Gj h hi;have hdi:n.dst-1=(i:Nat):=θ;refine Qy 37 Tryz.func106 ?_;refine Qc zb ya0 ?_;refine Qbc ?_;refine Qd ?_;refine⟨i,hdi,za _ (vg _ hi) ?_⟩;refine za (o:=S.obj X[i].q) _ hq0 ?_;refine⟨za7 X[i].p n hf hs hnf hnx _ _ (λhbad=>⟨Tv,⟨Dg,?_⟩,Tv⟩) (λhok=>⟨Tv,⟨Dg,?_⟩,Tv⟩),⟨Dg,?_⟩,Tv⟩
 ·exact⟨⟨Dg,⟨⟨Dg,zfm⟩,Tv⟩⟩,Tv⟩
 ·refine⟨⟨Dg,⟨⟨Dg,?_⟩,Tv⟩⟩,Tv⟩;exact zfl
 ·refine⟨za7 X[i].p n hf hs hnf hnx _ _ (λhbad=>⟨Dg,⟨⟨Dg,⟨⟨Dg,zfm⟩,Tv⟩⟩,Tv⟩⟩) (λhok=>⟨Dg,⟨⟨Dg,⟨⟨Dg,?_⟩,Tv⟩⟩,Tv⟩⟩),Tv⟩;exact zfl
end
def Rp:List AV:=[int 0,int 0,int 0,int 0,.s (.slice none 0 0),int 0,u64 0,int 0]
theorem C6(x:Nte):(ye x).length=8:=rfl
def yep(x:Nte):∀y∈ye x,y.one=true:=by intro y hy;simp only[ye,Fax,Fb4,or_false]at hy;rcases hy with rfl|rfl|rfl|rfl|rfl|rfl|rfl|rfl<;>rfl
def ybf(l:List Nte):∀y∈(rws ye l).flatten,y.one=true:=by intro y hy;obtain⟨r,hr,hy⟩:=Feu.1 hy;obtain⟨b,_,rfl⟩:=Fag.1 hr;exact yep b y hy
def ylt{N:Store}{v:AV}{l:List Nte}(hv:RowsQ 8 ye N v l)(hl:l.length<=1000000){i:Nat}(hi:i<l.length)(R:Ja)(h:∀v' N',RowsQ 8 ye N' v' (l.eraseIdx i)->R v' N'):Jb 105 [v,int (i:Nat),int ((i:Int)+1)] N R:=by
 rcases hv with(⟨_,hl0⟩|⟨b,cap,L,rfl,ho,hc1,hc2,hc3⟩)|⟨_,_,_,hl0⟩
 ·subst hl0;exact absurd hi (Fa2 _)
 rotate_left
 ·subst hl0;exact absurd hi (Fa2 _)
 refine Qy 33 Tryz.func105 ?_;refine zg9 (i:=i) (j:=i+1) (m:=l.length) rfl rfl rfl rfl θ θ hc1 θ ?_;refine zu (λhh=>absurd hh θ) (λ_=>?_);refine Qc zb ya1 ?_;refine⟨0,i,rfl,rfl,Fae _,θ,.inl ⟨θ,?_⟩⟩;by_cases hc:i+1<cap
 ·refine⟨i+1,l.length,rfl,rfl,θ,hc1,.inl ⟨hc,⟨⟨.inr ⟨_,_,rfl,rfl,Rh (ie:=ti183) (n:=i) (m:=l.length-(i+1)) (xs:=(rws ye (l.drop (i+1))).flatten) rfl ho (by rw[Fab,yx C6];exact hc2) θ (by have:=SrcOK.obj (P:=Tryz.prog) (k:=8) (m:=l.length-(i+1)) (o:=0+(i+1)*8) (cp:=cap-(i+1)) ho (by rw[Fab,yx C6];omega) (by rw[Fba,W5 C6 θ];exact ybf _);rw[Fba,W5 C6 θ]at this;rw[Fba];exact this) ⟨by show(i+(l.length-(i+1)))*80<=_;omega,θ⟩ (λ_=>⟨Tv,?_⟩) (λhh=>θ)⟩⟩,Tv⟩⟩⟩;rw[show zq ((rws ye l).flatten++L) (i*ti183.size) (rws ye (l.drop (i+1))).flatten=(rws ye (l.eraseIdx i)).flatten++(ye l[l.length-1]++L)from Wz C6 hi L];have hel:=W0 hi;have ho2:(N.sO b (.cells ((rws ye (l.eraseIdx i)).flatten++(ye l[l.length-1]++L)))).obj b=some (.cells ((rws ye (l.eraseIdx i)).flatten++(ye l[l.length-1]++L))):=zd _ _ _;generalize N.sO b _=N2 at ho2⊢;refine Qbb ⟨i+(l.length-(i+1)),l.length,rfl,rfl,θ,hc1,.inl ⟨θ,ci (ie:=ti183) (b:=b) (off:=0+(i+(l.length-(i+1)))*ti183.size) (l:=(rws ye (l.eraseIdx i)).flatten++(ye l[l.length-1]++L)) rfl rfl rfl rfl rfl rfl rfl θ ho2 (by rw[Fab,yx C6,hel,Fab,C6];show 0+(i+(l.length-(i+1)))*8+8<=_;omega) ψ ?_⟩⟩;have e3:zq ((rws ye (l.eraseIdx i)).flatten++(ye l[l.length-1]++L)) (0+(i+(l.length-(i+1)))*ti183.size) (ti183.zero.map AV.s)=(rws ye (l.eraseIdx i)).flatten++(Rp++L):=by
   have h1:(rws ye (l.eraseIdx i)).flatten.length=0+(i+(l.length-(i+1)))*ti183.size:=by rw[yx C6,hel];show _=0+(i+(l.length-(i+1)))*8;omega
   rw[ve h1,Fat];rfl
  rw[e3];have e4:i+(l.length-(i+1))=(l.eraseIdx i).length:=θ;refine ret (h _ _ (.inl (.inr ⟨b,cap,Rp++L,by rw[<-e4];rfl,zd _ _ _,θ,by rw[Fab];show cap*8<=_*8+(8+L.length);omega,hc3⟩)))
 ·refine⟨i+1,l.length,rfl,rfl,θ,hc1,.inr ⟨θ,?_⟩⟩;have e1:l.drop (i+1)=[]:=Fc2 θ;have hsp:=Wz C6 hi L;rw[e1]at hsp;have hsp:zq ((rws ye l).flatten++L) (i*8) []=(rws ye (l.eraseIdx i)).flatten++(ye l[l.length-1]++L):=hsp;have hsrc:SrcOK Tryz.prog N 8 0 (.s (.slice (some ⟨b,0,none⟩) 0 0)) []:=by
   have:=SrcOK.obj (P:=Tryz.prog) (k:=8) (m:=0) (o:=0) (cp:=0) ho θ (λy hy=>by simp at hy);simpa using this
  refine⟨⟨.inr ⟨_,_,rfl,rfl,Rh (ie:=ti183) (n:=i) (m:=0) (xs:=[]) rfl ho (by rw[Fab,yx C6];exact hc2) θ hsrc ⟨by show(i+(0))*80<=_;omega,θ⟩ (λ_=>⟨Tv,?_⟩) (λhh=>θ)⟩⟩,Tv⟩;rw[show zq ((rws ye l).flatten++L) (i*ti183.size) []=(rws ye (l.eraseIdx i)).flatten++(ye l[l.length-1]++L)from hsp];have hel:=W0 hi;have ho2:(N.sO b (.cells ((rws ye (l.eraseIdx i)).flatten++(ye l[l.length-1]++L)))).obj b=some (.cells ((rws ye (l.eraseIdx i)).flatten++(ye l[l.length-1]++L))):=zd _ _ _;generalize N.sO b _=N2 at ho2⊢;refine Qbb ⟨i+(0),l.length,rfl,rfl,θ,hc1,.inl ⟨θ,ci (ie:=ti183) (b:=b) (off:=0+(i+(0))*ti183.size) (l:=(rws ye (l.eraseIdx i)).flatten++(ye l[l.length-1]++L)) rfl rfl rfl rfl rfl rfl rfl θ ho2 (by rw[Fab,yx C6,hel,Fab,C6];show 0+(i+(0))*8+8<=_;omega) ψ ?_⟩⟩;have e3:zq ((rws ye (l.eraseIdx i)).flatten++(ye l[l.length-1]++L)) (0+(i+(0))*ti183.size) (ti183.zero.map AV.s)=(rws ye (l.eraseIdx i)).flatten++(Rp++L):=by
   have h1:(rws ye (l.eraseIdx i)).flatten.length=0+(i+(0))*ti183.size:=by rw[yx C6,hel];show _=0+(i+(0))*8;omega
   rw[ve h1,Fat];rfl
  rw[e3];have e4:i+(0)=(l.eraseIdx i).length:=θ;refine ret (h _ _ (.inl (.inr ⟨b,cap,Rp++L,by rw[<-e4];rfl,zd _ _ _,θ,by rw[Fab];show cap*8<=_*8+(8+L.length);omega,hc3⟩)))
def PtyX(room:Int)(s hb K:Nat)(σ:Pty)(S:Store):Prop:=∃X vp vm vl,X.map One.core=σ.X/\(∀o∈X,o.k<=K)/\Sp (qv room s hb X vp vm nil nil nil vl σ.m σ.log [] [] []) S
def Ag(a:Act30):List AV:=[int a.K,int a.P,int a.N,int a.I,lst 10 z6 a.C]
def yfl{N:Int}{n:Nat}(h:0<n):-(n:Int)<N.tmod n/\N.tmod n<n/\(N.tmod n+n).tmod n=N%n:=by
 have h1:=Int.tmod_lt_of_pos N (show(0:Int)<n by omega);have h2:-(n:Int)<N.tmod n:=by have:=Int.tmod_lt_of_pos (-N) (show(0:Int)<n by omega);rw[Int.neg_tmod]at this;omega
 refine⟨h2,h1,?_⟩;rw[Fdn θ,Int.add_emod_right];have:=Int.tmod_add_mul_tdiv N n
 conv=>rhs;rw[<-this,Int.add_mul_emod_self_left]
section
variable {room:Int} {s hb K:Nat} {σ:Pty} {S:Store} {n d:Int} {B:Nat}
theorem G9{X:List One}{σ:Pty}(h:X.map One.core=σ.X){i:Nat}(hi:i<X.length):σ.X[i]?=some X[i].core:=by rw[<-h,Faq,Fac hi];rfl
theorem nr{X:List One}{σ:Pty}(h:X.map One.core=σ.X){i:Nat}{o:One}:(X.set i o).map One.core=σ.X.set i o.core:=by rw[Fc3,h]
def iv{X:List One}{i:Nat}{o x:One}(h:x∈X.set i o):x=o\/x∈X:=(Fej h).symm
def PtyOK.of{X:List One}(hok:PtyOK n d B σ)(h:X.map One.core=σ.X)(hB:B<=900000){i:Nat}(hi:i<X.length):X[i].p.fits/\vz X[i].p:=by obtain⟨_,hp,_,ht,hl⟩:=hok.peer i _ (G9 h hi);have ht:X[i].p.turn=(X[i].h.length:Nat):=ht;have hl:X[i].h.length<=B:=hl;exact ydx hp (show X[i].p.turn<=900000 by omega)
def PtyOK.lenX{X:List One}(hok:PtyOK n d B σ)(h:X.map One.core=σ.X):(X.length:Int)=n:=by rw[<-hok.len,<-h,Fam]
def PtyOK.erase(h:PtyOK n d B σ)(j:Nat):PtyOK n d B {σ with m:=σ.m.eraseIdx j}:=
 ⟨h.n8,h.len,h.peer,λx hx=>h.note x (Fcw hx),by have:=Feq σ.m j;have:=h.lm;dsimp only;omega,h.ll⟩
def ybb(h:PtyX room s hb K σ S)(hok:PtyOK n d B σ)(hB:B<=900000){i:Nat}(hi:(i:Int)<n)(l:List Cmd)(hls:small l)(R:Ja)(hR:∀S',PtyX room s hb K (Km i l σ) S'->R (.tup []) S'):Jb 66 [ptr s,int i,lst 10 z6 l] S R:=by
 obtain⟨X,vp,vm,vl,hX,hk,hS⟩:=h;have hl:=hok.lenX hX;have hn:=hok.n8;have hi2:i<X.length:=θ;obtain⟨f1,f2⟩:=hok.of hX hB hi2;refine ya7 hS hi2 θ l hls f1 f2 R λo S2 ho h2=>hR S2 ?_;unfold Km;rw[G9 hX hi2];dsimp only;split
 ·rename_i c;rw[if_pos (by exact c)]at ho;exact⟨_,_,_,_,by rw[nr hX,ho];rfl,λx hx=>by
   rcases iv hx with rfl|hx
   ·have:=hk _ (Faa hi2);rw[ho];exact this
   ·exact hk x hx,h2⟩
 ·rename_i c;rw[if_neg (by exact c)]at ho;rw[ho,Fdf]at h2;exact⟨_,_,_,_,hX,hk,h2⟩
def zfk(h:PtyX room s hb K σ S)(hok:PtyOK n d B σ)(hB:B<=900000){x:Nte}(hx:Cg x/\x.src<=n/\x.dst<=n)(R:Ja)(hR:∀S',PtyX room s hb K (Bw σ x) S'->R (.tup []) S'):Jb 106 [ptr s,.agg (ye x)] S R:=by
 obtain⟨X,vp,vm,vl,hX,hk,hS⟩:=h;have hl:=hok.lenX hX;have hn:=hok.n8;have hds:=hx.1.2.1;have hi2:(x.dst-1).toNat<X.length:=by unfold plrP at hds;omega
 obtain⟨f1,f2⟩:=hok.of hX hB hi2;obtain⟨g1,g2⟩:=yew hx.1;refine ymu hS x (by unfold plrP at hds;omega) hi2 θ f1 f2 g1 g2 R λo S2 ho h2=>hR S2 ?_;unfold Bw;rw[G9 hX hi2];dsimp only;split
 ·rename_i c;rw[if_pos (by exact c)]at ho;exact⟨_,_,_,_,by rw[nr hX,ho];rfl,λx hx=>by
   rcases iv hx with rfl|hx
   ·have:=hk _ (Faa hi2);rw[ho];exact this
   ·exact hk x hx,h2⟩
 ·rename_i c;rw[if_neg (by exact c)]at ho;rw[ho,Fdf]at h2;exact⟨_,_,_,_,hX,hk,h2⟩
def ygx(h:PtyX room s hb K σ S)(hok:PtyOK n d B σ)(hB:B<=900000)(a:Act30)(R:Ja)(hR:∀S',PtyX room s hb K (Gs a.K a.N σ) S'->R (.tup []) S'):Jb 68 [ptr s,.agg (Ag a)] S R:=by
 obtain⟨X,vp,vm,vl,hX,hk,hS⟩:=h;have h0:=Bd hS;obtain⟨oa,cap,rfl,hr⟩:=RowsQ.form (k:=8) (f:=ye) (l:=σ.m) (Ko (k:=8) (f:=ye) (l:=σ.m) (v:=vm) (hS.at 0 rfl));refine Qy 59 Tryz.func68 ?_;refine Qbc (zu (λc1=>?_) (λc1=>?_))
 ·have e:Gs a.K a.N σ=σ:=by
   unfold Gs;rw[Fbl θ]
  rw[e]at hR;exact ret (hR S ⟨X,_,_,_,hX,hk,hS⟩)
 have hlm:=hok.lm;have hpos:0<σ.m.length:=θ;obtain⟨m1,m2,m3⟩:=yfl (N:=a.N) hpos;have hkb:=Fdy a.N (show(σ.m.length:Int)≠0 by omega);have hkl:=Fdd a.N (show(0:Int)<(σ.m.length:Int) by omega);obtain⟨k,hke⟩:∃k:Nat,a.N%(σ.m.length:Int)=k:=⟨(a.N%(σ.m.length:Int)).toNat,θ⟩
 have hkm:k<σ.m.length:=θ;rw[hke]at m3;refine⟨c1,ze θ ⟨c1,?_⟩⟩;rw[m3];refine Qbc ?_;obtain⟨b,L,rfl,ho⟩:=hr k hkm;refine⟨k,rfl,hkm,Qbc (xk (i:=ti183) (row:=ye σ.m[k]) rfl rfl (Cw (f:=ye) (k:=8) (λ_=>rfl) hkm) ?_)⟩;have hmx:=hok.note σ.m[k] (Faa hkm)
 have e:Gs a.K a.N σ=if a.K=4 then{σ with m:=σ.m++[σ.m[k]]}else
   if a.K=3 then Bw {σ with m:=σ.m.eraseIdx k} σ.m[k]else{σ with m:=σ.m.eraseIdx k}:=by
  unfold Gs;rw[hke,Fbe,Fac hkm]
 rw[e]at hR;refine zu (λc2=>?_) (λc2=>?_)
 ·rw[if_pos c2]at hR;refine Qc zb zxm (Qbc ?_);refine⟨ψ,⟨Cn (ie:=ti183) rfl (λ_=>rfl) ψ (Ko (k:=8) (f:=ye) (l:=σ.m) (v:=.s (.slice (some ⟨b,0,none⟩) σ.m.length cap)) (hS.at 0 rfl)) σ.m[k] rfl θ (λb3 cap3 L3 q1 q2 q3 q4=>⟨Tv,?_⟩),Tv⟩⟩;have hS5:=Foc.grow (k:=8) (f:=ye) (l:=σ.m) (v:=.s (.slice (some ⟨b,0,none⟩) σ.m.length cap)) (hS.at 0 rfl) q1 (λa=>RowsQ 8 ye a (.s (.slice (some ⟨b3,0,none⟩) (σ.m++[σ.m[k]]).length cap3)) (σ.m++[σ.m[k]])) (.cells ((rws ye (σ.m++[σ.m[k]])).flatten++L3)) (λa ha=>.inl (.inr ⟨b3,cap3,L3,rfl,ha,q2,q3,q4⟩));generalize S.sO b3 _=S5 at hS5⊢;have h5:=(hS5.at 7 rfl).obj;exact⟨za _ rfl (xa rfl (qz (v:=.s (.slice (some ⟨b3,0,none⟩) (σ.m++[σ.m[k]]).length cap3)) rfl rfl rfl rfl (yg (i:=ti72) (v:=.s (.slice (some ⟨b3,0,none⟩) (σ.m++[σ.m[k]]).length cap3)) (b:=s) (o:=1) rfl rfl rfl h5 (show 1+1<=7 by decide) rfl ⟨Tv,ret (hR _ ⟨X,vp,_,vl,hX,hk,(hS5.at 7 rfl).store [vp,.s (.slice (some ⟨b3,0,none⟩) (σ.m++[σ.m[k]]).length cap3),nil,.s (.slice (some ⟨hb,0,none⟩) X.length X.length),nil,nil,vl]⟩)⟩))),Tv⟩
 ·rw[if_neg c2]at hR;refine Qbc ?_;refine Qd ((hS.at 0 rfl).call (T:=λr S'=>RowsQ 8 ye S' r (σ.m.eraseIdx k)) (λa ha=>ylt ha θ hkm _ (λv' N' hv=>hv)) (λr a' hr S' hS'=>?_));have hS5:=hS' (λa=>RowsQ 8 ye a r (σ.m.eraseIdx k)) hr;obtain⟨oa2,cap2,rfl,_⟩:=RowsQ.form (k:=8) (f:=ye) (l:=σ.m.eraseIdx k) hr;have h5:=(hS5.at 7 rfl).obj;refine yg (i:=ti72) (v:=.s (.slice oa2 (σ.m.eraseIdx k).length cap2)) (b:=s) (o:=1) rfl rfl rfl h5 (show 1+1<=7 by decide) rfl ?_;have hS6:=(hS5.at 7 rfl).store [vp,.s (.slice oa2 (σ.m.eraseIdx k).length cap2),nil,.s (.slice (some ⟨hb,0,none⟩) X.length X.length),nil,nil,vl];have h6:PtyX room s hb K {σ with m:=σ.m.eraseIdx k} _:=⟨X,vp,_,vl,hX,hk,hS6⟩
  refine zu (λc3=>?_) (λc3=>?_)
  ·rw[if_pos c3]at hR;exact zfk h6 (hok.erase k) hB hmx _ λS7 h7=>ret (hR _ h7)
  ·rw[if_neg c3]at hR;exact ret (hR _ h6)
end
section
variable {room:Int} {s hb K:Nat} {σ:Pty} {S:Store} {n d:Int} {B:Nat}
def PtyX.up(h:PtyX room s hb K σ S){L:Nat}(hl:K<=L):PtyX room s hb L σ S:=by obtain⟨X,vp,vm,vl,hX,hk,hS⟩:=h;exact⟨X,vp,vm,vl,hX,λo ho=>Fb6 (hk o ho) hl,hS⟩
def ybo(hdo:DoC)(h:PtyX room s hb K σ S)(hok:PtyOK n d B σ)(hB:B<=900000)(hK:K<=100000000000000000){i:Nat}(hi:(i:Int)<n)(R:Ja)
  (hno:(∀o,σ.X[i]?=some o->¬Bj o.p)->R (V.bool false) S) (hyes:∀o,σ.X[i]?=some o->Bj o.p->∀S',PtyX room s hb (K+4096) ⟨σ.X.set i o.run,σ.m,if i=0 then σ.log++[⟨o.p.turn,xl o.p,jg o.next⟩]else σ.log⟩ S'->PtyOK n d (B+1) ⟨σ.X.set i o.run,σ.m,if i=0 then σ.log++[⟨o.p.turn,xl o.p,jg o.next⟩]else σ.log⟩->R (V.bool true) S'):Jb 104 [ptr s,int i] S R:=by
 obtain⟨X,vp,vm,vl,hX,hk,hS⟩:=h;have hl:=hok.lenX hX;have hn:=hok.n8;have hi2:i<X.length:=θ;obtain⟨f1,f2⟩:=hok.of hX hB hi2;obtain⟨a,hp,hw,ht,hh⟩:=hok.peer i _ (G9 hX hi2);have hp:qe X[i].p:=hp;obtain⟨n1,n2⟩:=ydy hp;have hkk:=hk _ (Faa hi2);have hh:X[i].h.length<=B:=hh;have hll:=hok.ll;refine ydp hS hi2 f1 f2 n1 n2 (.inr hdo) hw θ θ θ θ R (λhh=>hno λo ho hc=>?_) (λhr o vl2 S2 q1 q2 q3 q4 q5 q6 h2=>?_)
 ·rw[G9 hX hi2]at ho;cases ho;exact hh ⟨hp,hc⟩
 ·have hr1:=Vg i 1 hok;unfold ww at hr1;rw[G9 hX hi2]at hr1;dsimp only at hr1;rw[if_pos (by exact hr.2)]at hr1;refine hyes _ (G9 hX hi2) hr.2 S2 ⟨_,_,_,_,?_,λx hx=>?_,h2⟩ hr1
  ·rw[nr hX]
   congr 1
   unfold One.core;rw[q4,q5,q6];rfl
  ·rcases iv hx with rfl|hx
   ·omega
   ·have:=hk x hx;omega
def ss(hdo:DoC)(h:PtyX room s hb K σ S)(hok:PtyOK n d B σ)(hB:B<=890000)(hK:K<=10000000000000000){i:Nat}(hi:(i:Int)<n)(R:Ja)(hR:∀S',PtyX room s hb (K+16384) (Bb i σ) S'->R (.tup []) S'):Jb 67 [ptr s,int i] S R:=by
 obtain⟨X,vp,vm,vl,hX,hk,hS⟩:=h;have hl:=hok.lenX hX;have hn:=hok.n8;have hi2:i<X.length:=θ;obtain⟨t,rfl⟩:=Ks hS (λe=>by rw[e]at hi2;exact absurd hi2 (Fa2 i));obtain⟨f1,f2⟩:=hok.of hX θ hi2;obtain⟨⟨a1,a2,a3⟩,hp,_⟩:=hok.peer i _ (G9 hX hi2);have hp:qe X[i].p:=hp;have a2:X[i].p.players=n:=a2;have h0:=Bd hS;have hq0:=Gj hS hi2;have hlm:=hok.lm;have hnl:=O6 X[i].p X[i].p.players.toNat;refine Qy 39 Tryz.func67 ?_;refine Qbc ?_;refine⟨i,rfl,za _ (vg _ hi2) (za (o:=S.obj X[i].q) _ hq0 (yeu X[i].p f1 hp f2 _ _ (Qbc (Foc.appL (ie:=ti183) rfl (λ_=>rfl) ψ (hS.at 0 rfl) (jj X[i].p X[i].p.players.toNat) rfl θ (λoa cap S1 hS1=>?_)))))⟩;have h5:=(hS1.at 7 rfl).obj;refine yg (i:=ti72) (v:=.s (.slice oa (σ.m++jj X[i].p X[i].p.players.toNat).length cap)) (b:=s) (o:=1) rfl rfl rfl h5 (show 1+1<=7 by decide) rfl ?_;have hS2:=(hS1.at 7 rfl).store [.lst 1 (X.map λo=>[ptr o.q]) (some t),.s (.slice oa (σ.m++jj X[i].p X[i].p.players.toNat).length cap),nil,.s (.slice (some ⟨hb,0,none⟩) X.length X.length),nil,nil,vl];have h2:PtyX room s hb K {σ with m:=σ.m++jj X[i].p X[i].p.players.toNat} _:=⟨X,_,_,vl,hX,hk,hS2⟩
 have hok2:PtyOK n d (B+8) {σ with m:=σ.m++jj X[i].p X[i].p.players.toNat}:=⟨hok.n8,hok.len,(hok.up (C:=B+8) θ).peer,λx hx=>by
   rcases Fas.1 hx with hx|hx
   ·exact hok.note x hx
   ·exact ia (o:=X[i].core) ⟨⟨a1,a2,a3⟩,hp⟩ hx,by dsimp only;rw[Fab];omega,by have:=hok.ll;dsimp only;omega⟩
 have et:Bb i σ=ww i 4 {σ with m:=σ.m++jj X[i].p X[i].p.players.toNat}:=by unfold Bb;rw[G9 hX hi2];rfl
 rw[et]at hR;generalize Pty.mk _ _ _=τ at hR h2 hok2;refine AWp.loop (σ:=Nat×Pty) ⟨λx=>[(0,.av (ptr s)),(1,.av (int (i:Nat))),(6,.av (int (x.1:Nat)))],λ_=>[],λx S'=>x.1<=4/\PtyX room s hb (K+4096*x.1) x.2 S'/\PtyOK n d (B+8+x.1) x.2/\ww i (4-x.1) x.2=ww i 4 τ,λx=>4-x.1⟩ zb ?_ ?_
 ·exact⟨(0,τ),Tv,⟨(show 0<=4 by decide),h2,hok2,rfl⟩,Qax,Tv⟩
 clear h2 hok2 hS2 hS1;rintro⟨c,ρ⟩ S3 ⟨hc4,h3,hok3,hrun⟩;dsimp only at hc4 h3 hok3 hrun⊢;refine bcd (λc1=>?_) (λc1=>?_)
 ·have hc3:c<4:=θ;obtain⟨j,hj⟩:∃j,4-c=j+1:=⟨3-c,θ⟩
  rw[hj]at hrun;refine ybo hdo h3 hok3 θ θ hi _ (λhno=>?_) (λo ho hcan S4 h4 hok4=>?_)
  ·have e:ww i (j+1) ρ=ρ:=by
    unfold ww;cases ho:ρ.X[i]? with
    |none=>rfl
    |some o=>exact if_neg (hno o ho)
   exact ret (hR S3 (by rw[<-hrun,e];exact h3.up θ))
  ·have e:ww i (j+1) ρ=ww i j ⟨ρ.X.set i o.run,ρ.m,if i=0 then ρ.log++[⟨o.p.turn,xl o.p,jg o.next⟩]else ρ.log⟩:=by
    conv=>lhs;unfold ww
    rw[ho];exact if_pos hcan
   refine Qd ⟨(c+1,_),(show 4-(c+1)<4-c by omega),⟨(show c+1<=4 by omega),h4.up (show K+4096*c+4096<=K+4096*(c+1) by omega),hok4.up (show B+8+c+1<=B+8+(c+1) by omega),?_⟩,⟨Tq,Tq,Tq,Tv⟩,Tv⟩;show ww i (4-(c+1)) _=_;rw[<-hrun,e,show 4-(c+1)=j by omega]
 ·have:c=4:=θ;subst this;exact ret (hR S3 (by rw[<-hrun];exact h3.up θ))
end
end Go.Proofs
