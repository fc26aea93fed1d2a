/- Ground of laws of throngtop: contracts and plain lemmas; no condition beyond the row's own. -/
import Derived.Test.YtkahacegdhllcaaGreatLC
import Derived.Test.YtkahacegdhllcaaGreatLB
set_option linter.unusedSimpArgs false
set_option linter.unusedVariables false
set_option linter.defProp false
namespace Go.Proofs
open Go Go.V
set_option maxRecDepth 20000
set_option maxHeartbeats 4000000
section
variable {st0 st:Store} {v:AV}
def l7(st:Store)(R:Ja)(h:R (u64 14695981039346656037) st):Jb 47 [] st R:=by refine Qy 1 Tryz.func47 ?_;exact⟨_,st,Tt,Store.Has.refl st,h⟩
def zln(n:Int)(st0 st:Store)(v:AV)(rows:List (List AV))(ha:App 1 st0 v rows st)(hr:rows.length<=100000000000000)(hn:n<=9223372036854775807)(R:Ja)
  (h:∀v' st',App 1 st0 v' (rows++rowsB (yi n)) st'->R v' st'):Jb 81 [v,int n] st R:=by
 refine Qy 20 Tryz.func81 ?_;refine AWp.loop (σ:=AV×Int×List (List AV)) ⟨λs=>[(0,.av s.1),(1,.av (int s.2.1))],λ_=>[],λs st'=>App 1 st0 s.1 s.2.2 st'/\s.2.2++rowsB (yi s.2.1)=rows++rowsB (yi n),λs=>s.2.1.toNat⟩ zb ?_ ?_
 ·exact⟨(v,n,rows),Tv,⟨ha,rfl⟩,⟨Tq,Tq,Tv⟩,Tv⟩
 ·rintro⟨v,m,rs⟩ st ⟨ha,heq⟩;simp only at ha heq;have hrs:rs.length<=rows.length+9:=by
   have h1:=congrArg List.length heq;simp only[Fac,zi]at h1;have:=D4 hn;omega
  refine zk (λh1=>?_) (λh1=>?_)
  ·have h1:128<=m:=by simpa using h1
   refine⟨ψ,jy (ie:=ti5) (rows':=[[.s (.int .u8 (vr .or .u8 (IntKind.u8.wrap m) 128))]]) ha ?_ ?_ ⟨?_,?_⟩ (λv2 st2 ha2=>?_)⟩
   ·rfl
   ·rfl
   ·simp[ti5];omega
   ·simp;omega
   ·refine⟨ψ,⟨(v2,m.fdiv (2^(min (7:Int).toNat IntKind.i64.bits)),_),?_,⟨ha2,?_⟩,⟨Tq,Tq,Tv⟩,Tv⟩⟩
    ·show(m.fdiv (2^(min (7:Int).toNat IntKind.i64.bits))).toNat<m.toNat;rw[zc8];omega
    ·show(rs++_)++rowsB (yi (m.fdiv (2^(min (7:Int).toNat IntKind.i64.bits))))=_;rw[zc8,yi4,<-heq,yh1 h1,Fas];rfl
  ·have h1:m<128:=by simpa using h1
   refine⟨ψ,jy (ie:=ti5) (rows':=[[.s (.int .u8 (IntKind.u8.wrap m))]]) ha ?_ ?_ ⟨?_,?_⟩ (λv2 st2 ha2=>?_)⟩
   ·rfl
   ·rfl
   ·simp[ti5];omega
   ·simp;omega
   ·refine⟨_,st2,Tt,Store.Has.refl st2,h _ _ ?_⟩;rw[<-heq,yhz h1];rw[p6]at ha2;exact ha2
def N8(n:Int){bs:List UInt8}(ha:App 1 st0 v (rowsB bs) st)(hr:bs.length<=100000000000000)(hn:n<=9223372036854775807){R:Ja}
  (h:∀v' st',App 1 st0 v' (rowsB (bs++yi n)) st'->R v' st'):Jb 81 [v,int n] st R:=
 zln n st0 st v _ ha (by rw[zi];exact hr) hn R λv' st' h'=>h v' st' (by rw[Ke]at h';exact h')
def Pe{n:Nat}{G W:List Nat}{x:LV}{bs l:List UInt8}{K:Ja}(ha:App 1 st0 v (rowsB bs) st)(hx:kh 1 x=some (rowsB l))(hr:bs.length+l.length<=100000000000010)
  (h:∀v' st',App 1 st0 v' (rowsB (bs++l)) st'->K v' st'):appendK Tryz.prog (cfg n G W) st 5 (.av v) x K:=by
 refine jy (ie:=ti5) (rows':=rowsB l) ha ?_ hx ⟨?_,?_⟩ (λv2 st2 ha2=>?_)
 ·rfl
 ·simp[zi,ti5];omega
 ·simp[zi];omega
 ·rw[Ke]at ha2;exact h _ _ ha2
end
theorem zfe(a:Int):jk [a]=yi a:=by simp[jk]
def yo3(s:Int)(l:List UInt8)(hl:l.length<=1000000000000)(st:Store)(R:Ja)(h:R (u64 (vd s l)) st):Jb 46 [u64 s,qa l] st R:=by
 refine Qy 20 Tryz.func46 ?_
 refine AWp.loop (σ:=Nat) ⟨λi=>[(0,.av (u64 (vd s (l.take i)))),(7,.av (qa l)),(8,.av (int l.length)),(9,.av (int (i:Nat)))],λ_=>[],
  λi st'=>i<=l.length/\st'=st,λi=>l.length-i⟩ zb ?_ ?_
 ·refine⟨0,Tv,⟨Fae _,rfl⟩,⟨Tq,Tq,?_,Tq,Tv⟩,Tv⟩;rw[<-zi (f:=u8C) l];exact Tq
 ·rintro i st' ⟨hi,rfl⟩;refine zk (λh1=>?_) (λh1=>?_)
  ·have hlt:i<l.length:=by simpa using h1
   refine⟨i,rfl,za _ (zp hlt) ⟨⟨θ,θ⟩,⟨i+1,?_,⟨hlt,rfl⟩,⟨?_,Tq,Tq,Tq,Tv⟩,Tv⟩⟩⟩
   ·show l.length-(i+1)<l.length-i;omega
   ·rw[yo2 hlt];exact Tq
  ·have hge:i=l.length:=by
    have:¬i<l.length:=θj;omega
   subst hge;refine⟨_,st',Tt,Store.Has.refl st',?_⟩;rw[<-Faj (l:=l)]at h;exact h
def sr(s:Int){l:List UInt8}{v:AV}(hv:AV.le v (qa l))(hl:l.length<=1000000000000){st:Store}{R:Ja}(h:R (u64 (vd s l)) st):Jb 46 [u64 s,v] st R:=
 ACalls.le (ys:=[u64 s,qa l]) ⟨Tt,hv,Tv⟩ (yo3 s l hl st R h)
def zh3(s:Int)(st:Store)(R:Ja)(h:R (qa (wi s)) st):Jb 45 [u64 s] st R:=by
 refine Qy 14 Tryz.func45 ?_
 refine AWp.loop (σ:=Nat×AV) ⟨λx=>[(0,.av (u64 (s/256^x.1))),(2,.av x.2),(3,.av (int (x.1:Nat)))],λ_=>[],
  λx st'=>x.1<=8/\App 1 st x.2 (rowsB ((wi s).take x.1)) st',λx=>8-x.1⟩ zb ?_ ?_
 ·refine⟨(0,_),Tv,⟨Fae _,App.start 1 st⟩,⟨?_,Tq,Tq,Tv⟩,Tv⟩;show LV.le (.av (u64 s)) (.av (u64 (s/256^0)));rw[Int.pow_zero,Int.ediv_one];exact Tq
 ·rintro⟨i,v⟩ st' ⟨hi,ha⟩;simp only at hi ha;refine zk (λh1=>?_) (λh1=>?_)
  ·have hlt:i<8:=by simp at h1;omega
   refine⟨ψ,jy (ie:=ti5) (rows':=[[.s (.int .u8 (IntKind.u8.wrap (s/256^i)))]]) ha ?_ ?_ ⟨?_,?_⟩ (λv2 st2 ha2=>?_)⟩
   ·rfl
   ·rfl
   ·simp[zi,ti5];omega
   ·simp[zi];omega
   ·refine⟨ψ,⟨⟨θ,θ⟩,⟨(i+1,v2),?_,⟨hlt,?_⟩,⟨?_,Tq,Tq,Tv⟩,Tv⟩⟩⟩
    ·show 8-(i+1)<8-i;omega
    ·show App 1 st v2 (rws u8C ((wi s).take (i+1))) st2;rw[<-yqu s hlt,<-Ke];rw[p6]at ha2;exact ha2
    ·show LV.le (.av (u64 ((s/256^i).fdiv (2^(min (8:Int).toNat IntKind.u64.bits))))) _;rw[ya8];exact Tq
  ·have hge:i=8:=by simp at h1;omega
   subst hge;refine⟨_,st,AV.le_trans ha.le ?_,ha.has,h⟩;rw[Fck (by rw[fa];exact Fah _)];exact Tt
def yao(st:Store)(R:Ja)(h:R (u64 Bf) st):Jb 47 [] st R:=l7 st R h
def yhf(l:List UInt8)(hl:l.length<=1048576)(st:Store)(R:Ja)(h:R (.tup [qa (yi l.length++l),int 0]) st):Jb 212 [qa l] st R:=by
 refine Qy 12 Tryz.func212 ?_;refine bcd (λh1=>?_) (λh1=>?_)
 ·rw[zi]at h1;omega
 refine N8 (bs:=[]) _ (App.start 1 st) φ θe (λv st1 ha=>?_);rw[zi]at ha;have:=D4 (n:=(l.length:Int)) θ;exact Pe ha (l:=l) ζ χ (λv2 st2 ha2=>Lt h ha2.has (AV.le_tupL ⟨ha2.le,Tt,Tv⟩))
def ymb(n:Int)(hn:I62 n)(st:Store)(R:Ja)(h:R (.tup [qa (wg n),int 0]) st):Jb 213 [int n] st R:=by
 refine Qy 21 Tryz.func213 ?_;unfold I62 at hn;have fin:∀{v:AV} {st2:Store} {l:List UInt8},App 1 st v (rowsB ([]++l)) st2->l=wg n->∃r st',AV.le (.tup [v,int 0]) r/\st2.Has st'/\R r st':=by rintro v st2 l ha rfl;exact Lt h ha.has (AV.le_tupL ⟨ha.le,Tt,Tv⟩)
 refine bcd (λh1=>?_) (λh1=>?_)
 ·exact absurd h1 (Int.not_lt.2 (Int.le_of_lt hn.1))
 refine bcd (λh1=>absurd h1 (Int.not_le.2 hn.2)) (λh1=>bcd (λh2=>?_) (λh2=>?_))
 ·have r1:yu ((-2:Int)*n):=⟨θ,θ⟩
  have r2:yu ((-2:Int)*n-1):=⟨θ,θ⟩
  exact⟨r1,r2,N8 (bs:=[]) ((-2:Int)*n-1) (App.start 1 st) φ θ (λv st1 ha=>fin ha (by unfold wg;rw[if_pos h2]))⟩
 ·exact⟨⟨θ,θ⟩,N8 (bs:=[]) _ (App.start 1 st) φ θ (λv st1 ha=>fin ha (by unfold wg;rw[if_neg h2]))⟩
def zgl(g:Gnd)(hg:zv g)(st:Store)(R:Ja)(h:R (qa (j7 g)) st):Jb 40 [.agg (zw g)] st R:=by
 refine Qa (c:=cfg 21 [4] []) zb Tryz.func40 ?_;have⟨h1,h2,h3,_⟩:=hg;have hm:=Np h1 h2;have hw:=D4 (n:=g.W) θ;have hh:=D4 (n:=g.H) θ;refine Qc zb yb7 ⟨⟨ψ,λb hb=>⟨Qe,⟨optR (optR (optR (za _ (Kd _ _ _) ⟨Qe,⟨N8 (bs:=[84,71]) _ (zak hb θi) φ θ (λv st1 ha=>⟨Qe,⟨N8 _ ha χ θ (λv st1 ha=>⟨Qe,⟨Pe ha (l:=g.T) ζ χ (λv st1 ha=>⟨Qe,Qbb (l7 _ _ ?_)⟩),Tv⟩⟩),Tv⟩⟩),Tv⟩⟩))),Tv⟩⟩⟩,Tv⟩;have e:([84,71]++yi g.W++yi g.H++g.T)=Bt g:=rfl;rw[e]at ha;have hl:(Bt g).length<=20000:=by simp only[<-e,Fac,Fbf,Fdb];omega
 exact sr _ ha.le θ (zh3 _ _ _ (Pe ha (l:=wi (vd Bf (Bt g))) ζ (by rw[fa];omega) (λv st1 ha=>Lt h ha.has ha.le)))
def Qao{p:Prop}(h:p:=by simp only[Fac,Fbf,Fdb];omega):p:=h
def Qap{p:Prop}(h:p:=by simp only[Fbl,forall_eq];rw[zi];unfold I64;omega):p:=h
def Qaq{p:Prop}(h:p:=by rw[Fac];omega):p:=h
def Om(l:List Int)(hl:l.length<=64)(hn:∀n∈l,I64 n){p:Nat}{st0 st:Store}{v:AV}{bs:List UInt8}(ha:App 1 (st0.sO p (.cells [v])) v (rowsB bs) st)(hr:bs.length<=90000000000000){R:Ja}
  (h:∀v' st',App 1 (st0.sO p (.cells [v'])) v' (rowsB (bs++jk l)) st'->R (.tup []) st'):Jb 211 [yc l,.s (.pointer (some ⟨p,0,none⟩))] st R:=by
 refine Qy 15 Tryz.func211 ?_;refine AWp.loop (σ:=Nat×AV) ⟨λs=>[(1,.av (.s (.pointer (some ⟨p,0,none⟩)))),(5,.av (yc l)),(6,.av (int l.length)),(7,.av (int s.1))],λ_=>[],λs st'=>s.1<=l.length/\App 1 (st0.sO p (.cells [s.2])) s.2 (rowsB (bs++jk (l.take s.1))) st',λs=>l.length-s.1⟩ zb ?_ ?_
 ·refine⟨(0,v),Tv,⟨Fae _,by simpa [jk]using ha⟩,⟨Tq,Tq,?_,Tq,Tv⟩,Tv⟩;rw[<-zi (f:=zn) l];exact Tq
 ·rintro⟨i,v⟩ st' ⟨hi,ha⟩;simp only at hi ha;refine bcd (λh1=>?_) (λh1=>?_)
  ·have hlt:i<l.length:=θ;refine⟨i,rfl,za _ (zp hlt) (za _ ha.read ?_)⟩;have hlen:=L4 (l:=l.take i) λn hn'=>(hn n (Fcs hn')).2;rw[Fai]at hlen;refine N8 _ ha χ (hn _ (Faa hlt)).2 (λv st1 ha=>Ch ha.cells ha.one ζ ha.read (Fah _) ⟨⟨θ,θ⟩,⟨(i+1,v),?_,⟨hlt,?_⟩,Qax,Tv⟩⟩)
   ·show l.length-(i+1)<l.length-i;omega
   ·rw[yjh hlt,<-Fas];exact ha.sO
  ·obtain rfl:i=l.length:=θ;rw[Faj]at ha;exact ret (h _ _ ha)
theorem ss{α:Type}(f:α->List UInt8){l:List α}{i:Nat}(h:i<l.length):(l.take (i+1)).flatMap f=(l.take i).flatMap f++f l[i]:=by rw[Fad h,List.flatMap_append,List.flatMap_singleton]
def Oz{α:Type}(f:α->List UInt8)(n:Nat):∀l:List α,(∀x∈l,(f x).length<=n)->(l.flatMap f).length<=n*l.length:=by
 intro l;induction l with
 |nil=>intro _;simp
 |cons a l ih=>
  intro h;have h1:=h a (Fa1 ..);have h2:=ih λx hx=>h x (Fau _ hx);rw[List.flatMap_cons,Fac,Fbf,Nat.mul_add];omega
def Ca{n:Int}(h:xl n):I64 n:=by unfold xl at h;unfold I64;omega
def u0{b:Bld}(h:uz b):(H5 b).length<=54:=by
 unfold H5;refine Fbx (L4 λn hn=>?_) (show 9*6<=54 by decide);have⟨h1,h2,h3,h4,h5,h6⟩:=h;simp at hn;rcases hn with rfl|rfl|rfl|rfl|rfl|rfl
 ·exact h1.2
 ·exact h2.2
 ·exact h3.2
 ·exact h4.2
 ·exact h5.2
 ·exact h6.2
def zbm{u:Unt}(h:zbl u):(Db u).length<=90:=by
 have⟨h1,h2,h3,h4,h5,h6,h7,h8,h9,h10⟩:=h;have a1:(jk [u.id,u.owner,u.kind]).length<=9*3:=L4 λn hn=>by
  simp at hn;rcases hn with rfl|rfl|rfl
  ·exact h1.2
  ·exact h2.2
  ·exact h3.2
 have a2:(jk [u.goal+1,u.next+1,u.stuck,u.inn,u.state]).length<=9*5:=L4 λn hn=>by
  simp at hn;rcases hn with rfl|rfl|rfl|rfl|rfl
  ·exact h6.2
  ·exact h7.2
  ·exact h8.2
  ·exact h9.2
  ·exact h10.2
 have a3:=cy h4;have a4:=cy h5;unfold Db;simp only[Fac];omega
def ym0(w:Wld)(hw:Vm w)(st:Store)(R:Ja)(h:∀v st',App 1 st v (rowsB (I2 w)) st'->R v st'):Jb 177 [.agg (zr w)] st R:=by
 have⟨n1,n2,n3,hg,⟨hB,hbn⟩,hU,hun⟩:=hw;have hgl:=(sa hg).2;have hgp:(yi (j7 w.G).length).length<=9:=D4 θ;have l0:(jk [w.tick,w.players,w.next]).length<=9*3:=L4 λn hn=>by
  simp at hn;rcases hn with rfl|rfl|rfl
  ·exact n1.2
  ·exact n2.2
  ·exact n3.2
 refine Qb (c:=cfg 126 [3,15] []) zb Tryz.func177 (AWp.seq (AWp.of_vc zb ?_));refine AWp.seq (AWp.of_vc zb ?_);refine⟨ψ,λb hb=>optR (optR (optR (za _ (Kd _ _ _) (λp hp=>?_))))⟩;have ha0:=(zak (k:=1) (rows:=rowsB [84,87]) hb θi).boxed hp (x:=.cells [.lst 1 (rowsB [84,87]) (some b)]);have h0:=(zak (k:=1) (rows:=rowsB [84,87]) hb θi).fresh hp;refine Ch (i:=ti22) ha0.cells ha0.one ζ (zd _ _ _) (Fah _) ?_;rw[yw];have ha0:App 1 (st.sO p (.cells [.lst 1 (rowsB [84,87]) (some b)])) (.lst 1 (rowsB [84,87]) (some b)) (rowsB [84,87]) ((st.sT b (some 2)).sO p (.cells [.lst 1 (rowsB [84,87]) (some b)])):=ha0;show Cw _ _ _ _ _ _ ((st.sT b (some 2)).sO p (.cells [.lst 1 (rowsB [84,87]) (some b)]));generalize(AV.lst 1 (rowsB [84,87]) (some b))=v0 at ha0;generalize(st.sT b (some 2)).sO p (.cells [v0])=st0 at ha0;refine AWp.seq (AWp.of_vc zb (AWp.seq (AWp.of_vc zb ⟨ψ,Om [w.tick,w.players,w.next] φ (by simp;exact⟨Ca n1,Ca n2,Ca n3⟩) ha0 φ (λv1 st1 ha1=>AWp.seq (AWp.of_vc zb (zgl w.G hg _ _ (yhf (j7 w.G) θ _ _ (AWp.seq (AWp.of_vc zb ?_))))))⟩)));first|refine za _ (ha1.read) ?_|refine optR (za _ (ha1.read) ?_)|refine optR (optR (za _ (ha1.read) ?_))
 refine Pe ha1 (l:=yi (j7 w.G).length++j7 w.G) ζ Qao (λv2 st2 ha2=>Ch (i:=ti22) ha2.cells ha2.one ζ ha2.read (Fah _) ?_);have ha2:=ha2.sO (y:=.cells [v2]);refine AWp.seq (AWp.of_vc zb ⟨ψ,?_⟩);have p1:(yi (w.B.length:Int)).length<=9:=D4 θ;refine Om [((rws zl w.B).length:Int)] φ Qap ha2 Qao (λv3 st3 ha3=>?_);rw[zi,zfe]at ha3;generalize hpre:[84,87]++jk [w.tick,w.players,w.next]++(yi (j7 w.G).length++j7 w.G)++yi (w.B.length:Int)=pre at ha3;have hprel:pre.length<=17000:=by rw[<-hpre];simp only[Fac,Fbf,Fdb];omega
 refine AWp.meetA (σ:=AV) ⟨λv=>[(1,.bx 1 0),(3,.av (ptr p)),(4,.av (.clos 211 [ptr p]))],λ_=>[(1,zr w)],λv st'=>App 1 (st.sO p (.cells [v])) v (rowsB (pre++w.B.flatMap H5)) st'⟩ ?_ ?_
 ·refine AWp.seq (AWp.of_vc zb (AWp.of_vc zb ?_))
  refine AWp.loop (σ:=Nat×AV) ⟨λx=>[(1,.bx 1 0),(3,.av (ptr p)),(4,.av (.clos 211 [ptr p])),(44,.av (lst 6 zl w.B)),(45,.av (int (w.B.length:Nat))),(46,.av (int (x.1:Nat)))],λ_=>[(1,zr w)],
   λx st'=>x.1<=w.B.length/\App 1 (st.sO p (.cells [x.2])) x.2 (rowsB (pre++(w.B.take x.1).flatMap H5)) st',λx=>w.B.length-x.1⟩ zb ?_ ?_
  ·refine⟨(0,v3),Tv,⟨Fae _,by simpa using ha3⟩,⟨Tq,Tq,Tq,Tq,?_,Tq,Tv⟩,⟨rfl,Tv⟩⟩;rw[<-zi (f:=zl) w.B];exact Tq
  rintro⟨i,v⟩ st' ⟨hi,ha⟩;dsimp only at hi ha⊢;refine bcd (λh1=>?_) (λh1=>?_);rotate_left
  ·have:i=w.B.length:=θ;subst this;rw[Faj]at ha;exact⟨v,ha,Qax,⟨rfl,Tv⟩⟩
  have hlt:i<w.B.length:=θ;have⟨b1,b2,b3,b4,b5,b6⟩:=hbn _ (Faa hlt);have hfl:=Oz H5 54 (w.B.take i) λx hx=>u0 (hbn x (Fcs hx));rw[Fai]at hfl;refine⟨i,rfl,za _ (zp hlt) ⟨ψ,Om [w.B[i].id,w.B[i].owner,w.B[i].x,w.B[i].y,w.B[i].w,w.B[i].h] φ (by simp;exact⟨Ca b1,Ca b2,Ca b3,Ca b4,Ca b5,Ca b6⟩) ha Qaq (λv4 st4 ha4=>Qd ⟨(i+1,v4),?_,⟨ξ,?_⟩,Qax,⟨rfl,Tv⟩⟩)⟩⟩
  ·show w.B.length-(i+1)<w.B.length-i;omega
  ·dsimp only;rw[ss H5 hlt,<-Fas];exact ha4
 rintro v5 st5 ha5;dsimp only at ha5⊢;have hfl:=Oz H5 54 w.B λx hx=>u0 (hbn x hx);have p2:(yi (w.U.length:Int)).length<=9:=D4 θ;refine AWp.seq (AWp.of_vc zb ⟨ψ,Om [((rws zm w.U).length:Int)] φ Qap ha5 Qaq (λv6 st6 ha6=>?_)⟩);rw[zi,zfe]at ha6;generalize hpre2:pre++w.B.flatMap H5++yi (w.U.length:Int)=pre2 at ha6;have hpre2l:pre2.length<=40000:=by rw[<-hpre2];simp only[Fac];omega
 refine AWp.meetA (σ:=AV) ⟨λv=>[(3,.av (ptr p))],λ_=>[],λv st'=>App 1 (st.sO p (.cells [v])) v (rowsB (pre2++w.U.flatMap Db)) st'⟩ ?_ ?_
 ·refine AWp.seq (AWp.of_vc zb (AWp.of_vc zb ?_))
  refine AWp.loop (σ:=Nat×AV) ⟨λx=>[(1,.bx 1 0),(3,.av (ptr p)),(4,.av (.clos 211 [ptr p])),(73,.av (lst 10 zm w.U)),(74,.av (int (w.U.length:Nat))),(75,.av (int (x.1:Nat)))],λ_=>[(1,zr w)],
   λx st'=>x.1<=w.U.length/\App 1 (st.sO p (.cells [x.2])) x.2 (rowsB (pre2++(w.U.take x.1).flatMap Db)) st',λx=>w.U.length-x.1⟩ zb ?_ ?_
  ·refine⟨(0,v6),Tv,⟨Fae _,by simpa using ha6⟩,⟨Tq,Tq,Tq,Tq,?_,Tq,Tv⟩,⟨rfl,Tv⟩⟩;rw[<-zi (f:=zm) w.U];exact Tq
  rintro⟨i,v⟩ st' ⟨hi,ha⟩;dsimp only at hi ha⊢;refine bcd (λh1=>?_) (λh1=>?_);rotate_left
  ·have:i=w.U.length:=θ;subst this;rw[Faj]at ha;exact⟨v,ha,⟨Tq,Tv⟩,Tv⟩
  have hlt:i<w.U.length:=θ;have⟨u1,u2,u3,u4,u5,u6,u7,u8,u9,u10⟩:=hun _ (Faa hlt);have hfl:=Oz Db 90 (w.U.take i) λx hx=>zbm (hun x (Fcs hx));rw[Fai]at hfl;refine⟨i,rfl,za _ (zp hlt) ⟨ψ,?_⟩⟩;have q1:(jk [w.U[i].id,w.U[i].owner,w.U[i].kind]).length<=9*3:=L4 λn hn=>by
   simp at hn;rcases hn with rfl|rfl|rfl
   ·exact u1.2
   ·exact u2.2
   ·exact u3.2
  refine Om [w.U[i].id,w.U[i].owner,w.U[i].kind] φ (by simp;exact⟨Ca u1,Ca u2,Ca u3⟩) ha Qaq (λv7 st7 ha7=>⟨ψ,?_⟩);obtain⟨pp,hpp,hpl,hall⟩:∃pp:List Int,[w.U[i].pos.1,w.U[i].pos.2]=pp/\pp.length=2/\∀x∈pp,I62 x:=⟨_,rfl,rfl,by simp;exact⟨u4,u5⟩⟩
  refine AWp.loop (σ:=Nat×AV) ⟨λx=>[(1,.bx 1 0),(3,.av (ptr p)),(4,.av (.clos 211 [ptr p])),(73,.av (lst 10 zm w.U)),(74,.av (int (w.U.length:Nat))),(75,.av (int (i:Nat))),(10,.bx 10 0),(94,.av (lst 1 zn pp)),(95,.av (int 2)),(96,.av (int (x.1:Nat)))],λ_=>[(1,zr w),(10,zm w.U[i])],
   λx st'=>x.1<=2/\App 1 (st.sO p (.cells [x.2])) x.2 (rowsB (pre2++(w.U.take i).flatMap Db++jk [w.U[i].id,w.U[i].owner,w.U[i].kind]++(pp.take x.1).flatMap wg)) st',λx=>2-x.1⟩ zb ?_ ?_
  ·refine⟨(0,v7),Tv,⟨Fae _,by simpa using ha7⟩,⟨Tq,Tq,Tq,Tq,Tq,Tq,Tq,?_,Tq,Tq,Tv⟩,⟨rfl,rfl,Tv⟩⟩;rw[<-hpp];exact Tq
  rintro⟨j,v8⟩ st8 ⟨hj,ha8⟩;dsimp only at hj ha8⊢;have hifl:=Oz wg 9 (pp.take j) λx hx=>by obtain⟨m,hm,rfl⟩:=Faf (Fcs hx);exact cy (hall _ (Faa hm))
  rw[Fai]at hifl;refine bcd (λh2=>?_) (λh2=>?_)
  ·have hj2:j<2:=θ;refine⟨j,rfl,za _ (zp (show j<pp.length by omega)) (ymb pp[j] (hall _ (Faa _)) _ _ ?_)⟩;first|refine za _ (ha8.read) ?_|refine optR (za _ (ha8.read) ?_)|refine optR (optR (za _ (ha8.read) ?_))
   have hz:=cy (hall pp[j] (Faa _));refine Pe ha8 (l:=wg pp[j]) ζ (by simp only[Fac];omega) (λv9 st9 ha9=>Ch (i:=ti22) ha9.cells ha9.one ζ ha9.read (Fah _) (Qd ⟨(j+1,v9),?_,⟨ξ,?_⟩,Qax,⟨rfl,rfl,Tv⟩⟩))
   ·show 2-(j+1)<2-j;omega
   ·dsimp only;rw[ss wg (show j<pp.length by omega),<-Fas];exact ha9.sO
  ·have:j=2:=θ;subst this;have e2:pp.take 2=pp:=Fck θ;rw[e2,<-hpp]at ha8;rw[e2,<-hpp]at hifl;refine ze (by unfold xl at u6;omega) (ze (by unfold xl at u7;omega) ⟨ψ,Om [w.U[i].goal+1,w.U[i].next+1,w.U[i].stuck,w.U[i].inn,w.U[i].state] φ (by simp;exact⟨Ca u6,Ca u7,Ca u8,Ca u9,Ca u10⟩) ha8 (by simp only[Fac];omega) (λv9 st9 ha9=>Qd ⟨(i+1,v9),?_,⟨ξ,?_⟩,Qax,⟨rfl,Tv⟩⟩)⟩)
   ·show w.U.length-(i+1)<w.U.length-i;omega
   ·dsimp only;rw[ss Db hlt];have e:pre2++(w.U.take i).flatMap Db++jk [w.U[i].id,w.U[i].owner,w.U[i].kind]++[w.U[i].pos.1,w.U[i].pos.2].flatMap wg++jk [w.U[i].goal+1,w.U[i].next+1,w.U[i].stuck,w.U[i].inn,w.U[i].state]=pre2++((w.U.take i).flatMap Db++Db w.U[i]):=by
     unfold Db;simp
    rw[<-e];exact ha9
 rintro v10 st10 ha10;dsimp only at ha10⊢;refine AWp.of_vc zb ?_;first|refine za _ (ha10.read) ?_|refine optR (za _ (ha10.read) ?_)|refine optR (optR (za _ (ha10.read) ?_))
 have e:pre2++w.U.flatMap Db=I2 w:=by rw[<-hpre2,<-hpre];unfold I2;simp
 rw[e]at ha10;have⟨st3,h3,h4⟩:=ha10.dropObj h0;exact Lt (h _ _ h3) h4 (Tt)
end Go.Proofs
namespace Go.Proofs
open Go Go.V
set_option maxRecDepth 20000
set_option maxHeartbeats 4000000
def zlu{w:Wld}(hw:Vm w):(I2 w).length<=500000:=by
 have⟨n1,n2,n3,hg,⟨hB,hbn⟩,hU,hun⟩:=hw;have hgl:=(sa hg).2;have hgp:(yi (j7 w.G).length).length<=9:=D4 θ;have l0:(jk [w.tick,w.players,w.next]).length<=9*3:=L4 λn hn=>by
  simp at hn;rcases hn with rfl|rfl|rfl
  ·exact n1.2
  ·exact n2.2
  ·exact n3.2
 have p1:(yi (w.B.length:Int)).length<=9:=D4 θ;have p2:(yi (w.U.length:Int)).length<=9:=D4 θ;have f1:=Oz H5 54 w.B λx hx=>u0 (hbn x hx);have f2:=Oz Db 90 w.U λx hx=>zbm (hun x hx);unfold I2;simp only[Fac,Fbf,Fdb];omega
def yl3(w:Wld)(hw:Vm w)(st:Store)(R:Ja)(h:R (u64 (vd Bf (I2 w))) st):Jb 137 [.agg (zr w)] st R:=by have hl:=zlu hw;refine Qy 7 Tryz.func137 ?_;refine Qc zb ye5 ?_;exact⟨yao _ _ ⟨Qe,⟨ym0 w hw _ _ (λv st' ha=>⟨Tv,⟨sr _ ha.le θ ⟨Tv,Qbb (Lt h ha.has (Tt))⟩,Tv⟩⟩),Tv⟩⟩,Tv⟩
end Go.Proofs
namespace Go.Proofs
open Go Go.V
set_option maxRecDepth 20000
set_option maxHeartbeats 4000000
theorem Qar{p:Prop}(h:p:=by rw[ho]):p:=h
def Qas{p:Prop}(h:p:=by rw[ho2,hg1];show Sp _ _;dsimp only;rw[oq,oe];exact h6):p:=h
theorem Qat{p:Prop}(h:p:=by rw[Fal];omega):p:=h
structure One where
 q:Nat
 eb:Nat
 k:Nat
 p:Per
 w:Wld
 h:List Int
 vh:AV
def xi(room:Int)(s hb:Nat)(X:List One)(vp vm vT vW vS vl:AV)(m:List Nte)(log:List Frm)(T:List Int)(W:List Wld)(D:List Bool):List (Store->Prop):=
 [λa=>RowsQ 8 yg a vm m,
  TokR 1 vT (rws zn T),
  TokR 8 vW (rws zr W),
  TokR 1 vS (rws qu D),
  TokR 3 vl (rws xx log),
  Sp (X.map λo=>TokR 1 o.vh (rws ym o.h)),
  ja hb (X.map λo=>o.vh),
  ja s [vp,vm,vT,.s (.slice (some ⟨hb,0,none⟩) X.length X.length),vW,vS,vl],
  TokR 1 vp (X.map λo=>[ptr o.q]),
  Sp (X.map λo=>ja o.q (zo o.p++[ptr o.eb])),
  Sp (X.map λo=>EngR o.eb room o.k o.w)]
def yp2{eb:Nat}{room:Int}{k:Nat}{w:Wld}{S:Store}(hE:EngR eb room k w S)(hp:playW w)(l:List Cmd)(hl:l=[]\/DoC)(hf:∀c∈l,c.fits)(hl2:l.length<=512)(hk:k<=100000000000000000)(R:Ja)
  (h:∀k' S',k'<=k+4096->EngR eb room k' (Dj w l) S'->R (.tup [lst 1 zn (oo w l),int (ot w)]) S'):Jb 136 [ptr eb,lst 10 zz l] S R:=by
 by_cases e:w.tick=1099511627776
 ·have⟨e1,e2,e3⟩:=zfd e l;have:=h k S θ (e1.symm▸hE);rw[e2,e3]at this;refine(yp1 hE e l (λr S'=>r=.tup [nil,int 10]/\S'=S) ⟨rfl,rfl⟩).post (Store.Le.refl _) ?_;rintro r S' ⟨rfl,rfl⟩;exact⟨_,_,λW T v hv=>hv.tup2 (λx hx=>AV.le_nil 1 _ _ _ hx) λx hx=>hx,Store.Le.refl _,this⟩
 ·have⟨e1,e2,e3⟩:=ol e l;rw[e1,e2,e3]at h;have ht:=hp.1.1.1.1.1.2;exact yp0 hE hp l hl hf hl2 θ hk R λS' h1=>h (k+4096) S' (Fah _) h1
def j1(w:Wld):Int:=vd Bf (I2 w)
section
variable {room:Int} {s hb:Nat} {X:List One} {vp vm vT vW vS vl:AV} {m:List Nte} {log:List Frm} {T:List Int} {W:List Wld} {D:List Bool} {S:Store}
def Ci(h:Sp (xi room s hb X vp vm vT vW vS vl m log T W D) S):S.obj s=some (.cells [vp,vm,vT,.s (.slice (some ⟨hb,0,none⟩) X.length X.length),vW,vS,vl]):=(h.at 7 rfl).obj
def nj(h:Sp (xi room s hb X vp vm vT vW vS vl m log T W D) S):S.obj hb=some (.cells (X.map λo=>o.vh)):=(h.at 6 rfl).obj
def Hh(h:Sp (xi room s hb X vp vm vT vW vS vl m log T W D) S){i:Nat}(hi:i<X.length):S.obj X[i].q=some (.cells (zo X[i].p++[ptr X[i].eb])):=
 ((h.at 9 rfl).at (P:=ja X[i].q (zo X[i].p++[ptr X[i].eb])) i (by rw[Far,Fab hi];rfl)).obj
def Lv(h:Sp (xi room s hb X vp vm vT vW vS vl m log T W D) S)(hne:X≠[]):∃t,vp=.lst 1 (X.map λo=>[ptr o.q]) (some t):=by
 have⟨a,g,_,_,ht,_⟩:=h.at 8 rfl;rcases ht with⟨e,_⟩|⟨_,t,e,_⟩
 ·exact absurd (Fd0.1 e) hne
 ·exact⟨t,e⟩
end
theorem wx{α β:Type}(f:α->β){l:List α}{i:Nat}(hi:i<l.length):(l.map f)[i]?=some (f l[i]):=by rw[Far,Fab hi];rfl
theorem map_set_same{α β:Type}(f:α->β){l:List α}{i:Nat}{x:α}(hi:i<l.length)(h:f x=f l[i]):(l.set i x).map f=l.map f:=by
 rw[Fc6,h];refine Fco φ λj h1 h2=>?_;rw[Fct];split
 ·rename_i e;subst e;simp
 ·rfl
theorem zcy{l:List AV}{i:Nat}{v:AV}(h:i<l.length):zq l (0+i*1) [v]=l.set i v:=by rw[Fa9,Feu];unfold zq;rw[List.set_eq_take_append_cons_drop,if_pos h];simp
def gy{x:Int}(h:0<=x/\x<=8388608):I62 x:=by unfold I62;omega
def ykq{w:Wld}(hm:z8 w):Vm w:=by
 have hf:=ww hm;obtain⟨⟨⟨⟨h1,h2,h3⟩,⟨hg,hb,hu⟩,hbo⟩,hr,huu⟩,hc,hd⟩:=hm;have hga:=xj hg;refine⟨θa,θa,θa,hg,⟨by have:=hb.1;omega,λb hbm=>?_⟩,θ,λu hum=>?_⟩
 ·have⟨⟨a1,a2,a3,a4⟩,⟨b1,b2⟩,_⟩:=hb.2.2.1 b hbm;have:=hg.1;have:=hg.2.1;unfold uz xl;omega
 ·have⟨⟨a1,a2,a3⟩,⟨b1,b2,b3⟩,⟨c1,c2⟩,_⟩:=(huu u hum).1;have hp:I62 u.pos.1/\I62 u.pos.2/\xl u.inn:=by
   by_cases h0:u.inn=0
   ·have:=Sl hg (hc u hum h0).1;exact⟨gy θ,gy θ,θa⟩
   ·have⟨x,hx,e1,_,_,_,e2,_⟩:=hd u hum h0;rw[e2];have:=(huu x hx).1.1.1;exact⟨gy ψ,gy ψ,θa⟩
  unfold De at b1 b2;unfold Gb at a3;refine⟨θa,θa,θa,hp.1,hp.2.1,θa,θa,θa,hp.2.2,θa⟩
def nu{w:Wld}(h:playW w)(l:List Cmd):playW (Dj w l):=by
 by_cases e:w.tick=1099511627776
 ·rw[(zfd e l).1];exact h
 ·rw[(ol e l).1];have:=h.1.1.1.1.1.2;exact yil h θ l
section
variable {room:Int} {s hb:Nat} {X:List One} {vp vm vT vW vS vl:AV} {m:List Nte} {log:List Frm} {T:List Int} {W:List Wld} {D:List Bool} {S:Store} {i:Nat} {o:One}
def W5(hi:i<X.length)(p:Per)(ho:o={X[i]with p:=p})(h:Sp ((xi room s hb X vp vm vT vW vS vl m log T W D).set 9 (Sp ((X.map λo=>ja o.q (zo o.p++[ptr o.eb])).set i (ja o.q (zo o.p++[ptr o.eb]))))) S):Sp (xi room s hb (X.set i o) vp vm vT vW vS vl m log T W D) S:=by unfold xi;rw[map_set_same (λo=>o.vh) hi Qar,map_set_same (λo=>[ptr o.q]) hi Qar,map_set_same (λo=>TokR 1 o.vh (rws ym o.h)) hi Qar,map_set_same (λo=>EngR o.eb room o.k o.w) hi Qar,Fc6,Fak];exact h
def yib(hi:i<X.length)(k:Nat)(w:Wld)(ho:o={X[i]with k:=k,w:=w})(h:Sp ((xi room s hb X vp vm vT vW vS vl m log T W D).set 10 (Sp ((X.map λo=>EngR o.eb room o.k o.w).set i (EngR o.eb room o.k o.w)))) S):Sp (xi room s hb (X.set i o) vp vm vT vW vS vl m log T W D) S:=by unfold xi;rw[map_set_same (λo=>o.vh) hi Qar,map_set_same (λo=>[ptr o.q]) hi Qar,map_set_same (λo=>TokR 1 o.vh (rws ym o.h)) hi Qar,map_set_same (λo=>ja o.q (zo o.p++[ptr o.eb])) hi Qar,Fc6,Fak];exact h
def zep(hi:i<X.length)(l:List Int)(v:AV)(ho:o={X[i]with h:=l,vh:=v})(h:Sp (((xi room s hb X vp vm vT vW vS vl m log T W D).set 5 (Sp ((X.map λo=>TokR 1 o.vh (rws ym o.h)).set i (TokR 1 o.vh (rws ym o.h))))).set 6 (ja hb ((X.map λo=>o.vh).set i o.vh))) S):Sp (xi room s hb (X.set i o) vp vm vT vW vS vl m log T W D) S:=by unfold xi;rw[map_set_same (λo=>[ptr o.q]) hi Qar,map_set_same (λo=>ja o.q (zo o.p++[ptr o.eb])) hi Qar,map_set_same (λo=>EngR o.eb room o.k o.w) hi Qar,Fc6,Fc6,Fak];exact h
end
def mr(o:One):Prop:=qj o.p/\Cr o.p
noncomputable def Dh(o:One):Wld:=Dj o.w (nextC o.p)
def yih{room:Int}{s hb:Nat}{X:List One}{vp vm vT vW vS vl:AV}{m:List Nte}{log:List Frm}{T:List Int}{W:List Wld}{D:List Bool}{S:Store}(h:Sp (xi room s hb X vp vm vT vW vS vl m log T W D) S){i:Nat}(hi:i<X.length)
  (hf:X[i].p.fits) (hs:Ag X[i].p) (hnl:(nextC X[i].p).length<=512) (hnf:∀c∈nextC X[i].p,c.fits) (hdo:nextC X[i].p=[]\/DoC) (hw:playW X[i].w) (hk:X[i].k<=100000000000000000) (hlog:log.length<=1000000) (hhl:X[i].h.length<=1000000) (hX:X.length<=8)
  (R:Ja) (hno:¬mr X[i]->R (V.bool false) S)
  (hyes:mr X[i]->∀(o:One) (vl2:AV) (S2:Store),o.q=X[i].q->o.eb=X[i].eb->o.k<=X[i].k+4096->o.p=qk X[i].p (j1 (Dh X[i]))->o.w=Dh X[i]->o.h=X[i].h++[j1 (Dh X[i])]->
   Sp (xi room s hb (X.set i o) vp vm vT vW vS vl2 m (if i=0 then log++[⟨X[i].p.turn,nextC X[i].p,j1 (Dh X[i])⟩]else log) T W D) S2->R (V.bool true) S2):
  Jb 104 [ptr s,int (i:Nat)] S R:=by
 obtain⟨t,rfl⟩:=Lv h (λe=>ψz);have h0:=Ci h;have hq0:=Hh h hi;refine Qy 95 Tryz.func104 ?_;refine Qbc ?_;refine⟨i,rfl,za _ (wx _ hi) (za (o:=S.obj X[i].q) _ hq0 (yhb X[i].p hf hs θ _ _ (λhb=>?_) (λhp hc=>?_) (λhp hc=>?_)))⟩
 ·exact ret (hno λhh=>hb hh.1)
 ·exact ret (hno λhh=>hc hh.2)
 have hrun:mr X[i]:=⟨hp,hc⟩
 refine za (o:=S.obj X[i].q) _ hq0 ?_;have hFE:=(h.at 10 rfl).at (P:=EngR X[i].eb room X[i].k X[i].w) i (wx _ hi);refine hFE.call (xs:=[ptr X[i].eb,lst 10 zz (nextC X[i].p)]) (T:=λr S'=>∃k',k'<=X[i].k+4096/\EngR X[i].eb room k' (Dh X[i]) S') (λa ha=>yp2 ha hw _ hdo hnf hnl hk _ (λk' S' h1 h2=>⟨k',h1,h2⟩)) (λr a' ⟨k',hk',ha'⟩ S' hS'=>?_)
 -- the engine has stepped
 obtain⟨o1,ho1⟩:∃o1:One,o1={X[i]with k:=k',w:=Dh X[i]}:=⟨_,rfl⟩
 have h2:Sp (xi room s hb (X.set i o1) (.lst 1 (X.map λo=>[ptr o.q]) (some t)) vm vT vW vS vl m log T W D) S':=by exact yib hi k' (Dh X[i]) ho1 (hS' (EngR o1.eb room o1.k o1.w) (by rw[ho1];exact ha'))
 have hi1:i<(X.set i o1).length:=by rw[Fak];exact hi
 have hg1:(X.set i o1)[i]=o1:=Fcx ..;have hst:∀o,(X.set i o1).set i o=X.set i o:=λo=>List.set_set ..;have hxl:(X.set i o1).length=X.length:=Fak;generalize X.set i o1=Y at*;have hq1:=Hh h2 hi1;rw[hg1]at hq1;have oq:o1.q=X[i].q:=by rw[ho1]
 have op:o1.p=X[i].p:=by rw[ho1]
 have oe:o1.eb=X[i].eb:=by rw[ho1]
 have ow:o1.w=Dh X[i]:=by rw[ho1]
 have oh:o1.h=X[i].h:=by rw[ho1]
 have ok:o1.k<=X[i].k+4096:=by rw[ho1];exact hk'
 have ov:o1.vh=X[i].vh:=by rw[ho1]
 rw[oq,op,oe]at hq1;have hwp:playW (Dh X[i]):=nu hw _;refine za (o:=S'.obj X[i].q) _ hq1 (((h2.at 10 rfl).at (P:=EngR o1.eb room o1.k o1.w) i (by rw[wx _ hi1,hg1])).look (xs:=[ptr X[i].eb]) (.agg (zr (Dh X[i]))) (λa ha T hT=>by rw[oe,ow]at ha;exact zij ha hwp.sizes T hT) (yl3 (Dh X[i]) (ykq hwp.1) _ _ ?_));have esum:vd Bf (I2 (Dh X[i]))=j1 (Dh X[i]):=rfl;rw[esum];generalize j1 (Dh X[i])=hash at*;have hs1:=Ci h2;refine zu (λc1=>?_) (λc1=>?_)
 ·have hi0:i=0:=θ;refine Qc zb yfn (Qbc (za (o:=S'.obj X[i].q) _ hq1 ?_));refine⟨ψ,⟨(h2.at 4 rfl).app (ie:=ti157) rfl rfl (rows:=[xx ⟨X[i].p.turn,nextC X[i].p,hash⟩]) rfl φ ?_ (λb S3 h3=>⟨Tv,?_⟩),Tv⟩⟩
  ·simp only[Fac,zi,Fan];show(log.length+1)*40<=_/\log.length+1<=_;omega
  have hos:=(h3.at 7 rfl).obj;refine⟨za _ rfl (xf rfl (q9 (v:=.lst 3 (rws xx log++[xx ⟨X[i].p.turn,nextC X[i].p,hash⟩]) (some b)) rfl rfl rfl rfl (ye (i:=ti33) (v:=.lst 3 (rws xx log++[xx ⟨X[i].p.turn,nextC X[i].p,hash⟩]) (some b)) (b:=s) (o:=6) rfl rfl rfl hos (show 6+1<=7 by decide) rfl ⟨Tv,?_⟩))),Tv⟩;have h4:=(h3.at 7 rfl).store [.lst 1 (X.map λo=>[ptr o.q]) (some t),vm,vT,.s (.slice (some ⟨hb,0,none⟩) Y.length Y.length),vW,vS,.lst 3 (rws xx log++[xx ⟨X[i].p.turn,nextC X[i].p,hash⟩]) (some b)];have h5:Sp (xi room s hb Y (.lst 1 (X.map λo=>[ptr o.q]) (some t)) vm vT vW vS (.lst 3 (rws xx log++[xx ⟨X[i].p.turn,nextC X[i].p,hash⟩]) (some b)) m (if i=0 then log++[⟨X[i].p.turn,nextC X[i].p,hash⟩]else log) T W D) (S3.sO s (.cells (zq [.lst 1 (X.map λo=>[ptr o.q]) (some t),vm,vT,.s (.slice (some ⟨hb,0,none⟩) Y.length Y.length),vW,vS,vl] 6 [.lst 3 (rws xx log++[xx ⟨X[i].p.turn,nextC X[i].p,hash⟩]) (some b)]))):=by rw[if_pos hi0];have e:rws xx (log++[⟨X[i].p.turn,nextC X[i].p,hash⟩])=rws xx log++[xx ⟨X[i].p.turn,nextC X[i].p,hash⟩]:=Fav;unfold xi;rw[e];exact h4
  generalize Store.sO S3 s (.cells (zq [.lst 1 (X.map λo=>[ptr o.q]) (some t),vm,vT,.s (.slice (some ⟨hb,0,none⟩) Y.length Y.length),vW,vS,vl] 6 [.lst 3 (rws xx log++[xx ⟨X[i].p.turn,nextC X[i].p,hash⟩]) (some b)]))=S4 at*;generalize AV.lst 3 (rws xx log++[xx ⟨X[i].p.turn,nextC X[i].p,hash⟩]) (some b)=vl2 at*;have hq5:=Hh h5 hi1;rw[hg1,oq,op,oe]at hq5;refine za (o:=S4.obj X[i].q) _ hq5 (zef X[i].p hash hf hs hp hc _ _ (k8 (i:=ti63) (v:=.agg (zo (qk X[i].p hash))) (xs:=zo (qk X[i].p hash)) (b:=X[i].q) (o:=0) (l:=zo X[i].p++[ptr X[i].eb]) rfl rfl rfl hq5 (show 0+11<=12 by decide) ?_));have h6:=((h5.at 9 rfl).at (P:=ja X[i].q (zo X[i].p++[ptr X[i].eb])) i (by rw[wx _ hi1,hg1,oq,op,oe])).store (zo (qk X[i].p hash)++[ptr X[i].eb]);have esp:zq (zo X[i].p++[ptr X[i].eb]) 0 (zo (qk X[i].p hash))=zo (qk X[i].p hash)++[ptr X[i].eb]:=rfl;rw[esp];generalize S4.sO X[i].q (.cells (zo (qk X[i].p hash)++[ptr X[i].eb]))=S5 at*;obtain⟨o2,ho2⟩:∃o2:One,o2={Y[i]with p:=qk X[i].p hash}:=⟨_,rfl⟩
  have h7:=W5 (o:=o2) hi1 (qk X[i].p hash) ho2 Qas;have hi2:i<(Y.set i o2).length:=by rw[Fak];exact hi1
  have hg2:(Y.set i o2)[i]=o2:=Fcx ..;have hst2:∀o,(Y.set i o2).set i o=X.set i o:=λo=>(List.set_set ..).trans (hst o);have hxl2:(Y.set i o2).length=X.length:=Fak.trans hxl;have o2h:o2.h=X[i].h:=by rw[ho2,hg1];exact oh
  have o2v:o2.vh=X[i].vh:=by rw[ho2,hg1];exact ov
  generalize Y.set i o2=Y2 at*;have hs7:=Ci h7;have hb7:=nj h7;refine Qc zb zdp ?_;refine Qbc ?_;refine Qbc ?_;have hv:((Y2.map λo=>o.vh).drop (0+i*1)).head?=some X[i].vh:=by rw[Fa9,Feu,Fcq,wx _ hi2,hg2,o2v]
  refine⟨i,rfl,θ,Qbc (za _ hv ?_)⟩;refine⟨ψ,⟨((h7.at 5 rfl).at (P:=TokR 1 X[i].vh (rws ym X[i].h)) i (by rw[wx _ hi2,hg2,o2h,o2v])).app (ie:=ti12) rfl rfl (rows:=[ym hash]) rfl φ ?_ (λb S6 h8=>⟨?_,?_⟩),Tv⟩⟩
  ·simp only[Fac,zi,Fan];show(X[i].h.length+1)*8<=_/\X[i].h.length+1<=_;omega
  ·have hs8:=(h8.at 7 rfl).obj;repeat(first|exact Tv|refine⟨rfl,?_⟩|refine⟨za (o:=S6.obj s) _ hs8 rfl,?_⟩)
  have hb8:=(h8.at 6 rfl).obj;refine⟨i,rfl,θ,⟨za _ rfl (xf rfl (q9 (v:=.lst 1 (rws ym X[i].h++[ym hash]) (some b)) rfl rfl rfl rfl (ye (i:=ti55) (v:=.lst 1 (rws ym X[i].h++[ym hash]) (some b)) (b:=hb) (o:=0+i*1) (l:=Y2.map λo=>o.vh) rfl rfl rfl hb8 Qat rfl ⟨Tv,?_⟩))),Tv⟩⟩;rw[zcy Qat];have h9:=(h8.at 6 rfl).store ((Y2.map λo=>o.vh).set i (.lst 1 (rws ym X[i].h++[ym hash]) (some b)));obtain⟨o3,ho3⟩:∃o3:One,o3={Y2[i]with h:=X[i].h++[hash],vh:=.lst 1 (rws ym X[i].h++[ym hash]) (some b)}:=⟨_,rfl⟩
  have e3:rws ym (X[i].h++[hash])=rws ym X[i].h++[ym hash]:=Fav;have h10:=zep (o:=o3) hi2 _ _ ho3 (by rw[ho3];dsimp only;rw[e3];exact h9);rw[hst2]at h10;refine ret (hyes hrun o3 _ _ ?_ ?_ ?_ ?_ ?_ ?_ h10);all_goals rw[ho3,hg2]
  ·rw[ho2,hg1];exact oq
  ·rw[ho2,hg1];exact oe
  ·rw[ho2,hg1];exact ok
  ·rw[ho2]
  ·rw[ho2,hg1];exact ow
 ·have h5:Sp (xi room s hb Y (.lst 1 (X.map λo=>[ptr o.q]) (some t)) vm vT vW vS vl m (if i=0 then log++[⟨X[i].p.turn,nextC X[i].p,hash⟩]else log) T W D) S':=by
   rw[if_neg θ];exact h2
  generalize S'=S4 at*;have hq5:=Hh h5 hi1;rw[hg1,oq,op,oe]at hq5;refine za (o:=S4.obj X[i].q) _ hq5 (zef X[i].p hash hf hs hp hc _ _ (k8 (i:=ti63) (v:=.agg (zo (qk X[i].p hash))) (xs:=zo (qk X[i].p hash)) (b:=X[i].q) (o:=0) (l:=zo X[i].p++[ptr X[i].eb]) rfl rfl rfl hq5 (show 0+11<=12 by decide) ?_));have h6:=((h5.at 9 rfl).at (P:=ja X[i].q (zo X[i].p++[ptr X[i].eb])) i (by rw[wx _ hi1,hg1,oq,op,oe])).store (zo (qk X[i].p hash)++[ptr X[i].eb]);have esp:zq (zo X[i].p++[ptr X[i].eb]) 0 (zo (qk X[i].p hash))=zo (qk X[i].p hash)++[ptr X[i].eb]:=rfl;rw[esp];generalize S4.sO X[i].q (.cells (zo (qk X[i].p hash)++[ptr X[i].eb]))=S5 at*;obtain⟨o2,ho2⟩:∃o2:One,o2={Y[i]with p:=qk X[i].p hash}:=⟨_,rfl⟩
  have h7:=W5 (o:=o2) hi1 (qk X[i].p hash) ho2 Qas;have hi2:i<(Y.set i o2).length:=by rw[Fak];exact hi1
  have hg2:(Y.set i o2)[i]=o2:=Fcx ..;have hst2:∀o,(Y.set i o2).set i o=X.set i o:=λo=>(List.set_set ..).trans (hst o);have hxl2:(Y.set i o2).length=X.length:=Fak.trans hxl;have o2h:o2.h=X[i].h:=by rw[ho2,hg1];exact oh
  have o2v:o2.vh=X[i].vh:=by rw[ho2,hg1];exact ov
  generalize Y.set i o2=Y2 at*;have hs7:=Ci h7;have hb7:=nj h7;refine Qc zb zdp ?_;refine Qbc ?_;refine Qbc ?_;have hv:((Y2.map λo=>o.vh).drop (0+i*1)).head?=some X[i].vh:=by rw[Fa9,Feu,Fcq,wx _ hi2,hg2,o2v]
  refine⟨i,rfl,θ,Qbc (za _ hv ?_)⟩;refine⟨ψ,⟨((h7.at 5 rfl).at (P:=TokR 1 X[i].vh (rws ym X[i].h)) i (by rw[wx _ hi2,hg2,o2h,o2v])).app (ie:=ti12) rfl rfl (rows:=[ym hash]) rfl φ ?_ (λb S6 h8=>⟨?_,?_⟩),Tv⟩⟩
  ·simp only[Fac,zi,Fan];show(X[i].h.length+1)*8<=_/\X[i].h.length+1<=_;omega
  ·have hs8:=(h8.at 7 rfl).obj;repeat(first|exact Tv|refine⟨rfl,?_⟩|refine⟨za (o:=S6.obj s) _ hs8 rfl,?_⟩)
  have hb8:=(h8.at 6 rfl).obj;refine⟨i,rfl,θ,⟨za _ rfl (xf rfl (q9 (v:=.lst 1 (rws ym X[i].h++[ym hash]) (some b)) rfl rfl rfl rfl (ye (i:=ti55) (v:=.lst 1 (rws ym X[i].h++[ym hash]) (some b)) (b:=hb) (o:=0+i*1) (l:=Y2.map λo=>o.vh) rfl rfl rfl hb8 Qat rfl ⟨Tv,?_⟩))),Tv⟩⟩;rw[zcy Qat];have h9:=(h8.at 6 rfl).store ((Y2.map λo=>o.vh).set i (.lst 1 (rws ym X[i].h++[ym hash]) (some b)));obtain⟨o3,ho3⟩:∃o3:One,o3={Y2[i]with h:=X[i].h++[hash],vh:=.lst 1 (rws ym X[i].h++[ym hash]) (some b)}:=⟨_,rfl⟩
  have e3:rws ym (X[i].h++[hash])=rws ym X[i].h++[ym hash]:=Fav;have h10:=zep (o:=o3) hi2 _ _ ho3 (by rw[ho3];dsimp only;rw[e3];exact h9);rw[hst2]at h10;refine ret (hyes hrun o3 _ _ ?_ ?_ ?_ ?_ ?_ ?_ h10);all_goals rw[ho3,hg2]
  ·rw[ho2,hg1];exact oq
  ·rw[ho2,hg1];exact oe
  ·rw[ho2,hg1];exact ok
  ·rw[ho2]
  ·rw[ho2,hg1];exact ow
def zfm{id n d:Int}(hn:1<=n/\n<=8)(hid:1<=id/\id<=n):qj (xt id n d)↔1<=d/\d<=8:=by
 refine⟨λh=>h.1.2.2.1,λhd=>?_⟩;have hl:0<(List.replicate n.toNat (d-1)).length:=by rw[Faz];omega
 have h1:=List.eq_of_mem_replicate (R0 hl);have h2:=List.eq_of_mem_replicate (zgh hl);have hc:countsP (xt id n d) (List.replicate n.toNat (d-1)):=by
  refine⟨λj hj=>?_,?_,λh=>?_⟩
  ·rw[Fdi];show d-1<=d-1/\d-1<=0+16/\d-1<=maxT;unfold maxT;omega
  ·rw[Faz];show _=n;omega
  ·rw[Fdi];rfl
 have e:xt id n d=⟨id,n,d,0,d-1,[],[],List.replicate n.toNat (d-1),List.replicate n.toNat (d-1),[],false⟩:=by unfold xt;rw[if_pos hn]
 rw[e]at hc⊢;unfold maxT at*;refine⟨⟨hn,hid,hd,Fcr 0,(show(0:Int)<=1099511627776 by decide)⟩,⟨Fcr _,?_,?_⟩,hc,hc,?_,?_,(show(0:Nat)<=16 by decide),(show((0:Nat):Int)<=0 by decide),⟨?_,λj hj=>absurd hj (Fa3 j)⟩,?_,λj hj=>absurd hj (Fa3 j)⟩
 ·show d-1<=0+d-1;omega
 ·show d-1<=1099511627776;omega
 ·show(0:Int)-1<=yy (List.replicate n.toNat (d-1));omega
 ·show F9 (List.replicate n.toNat (d-1))<=d-1;omega
 ·show((0:Nat):Int)=d-1-yy (List.replicate n.toNat (d-1));omega
 ·exact λj hj=>absurd hj (Fa3 j)
def mkP(room:Int)(s:Nat)(X:List One)(vp:AV):List (Store->Prop):=
 [ja s [vp,nil,nil,nil,nil,nil,nil],TokR 1 vp (X.map λo=>[ptr o.q]),Sp (X.map λo=>ja o.q (zo o.p++[ptr o.eb])),Sp (X.map λo=>EngR o.eb room o.k o.w)]
def zfn(g:Gnd)(n d:Int)(i:Nat)(o:One):Prop:=o.p=xt ((i+1:Nat):Int) n d/\o.w=F7 g n/\o.h=[]/\o.k=0/\o.vh=.s (.slice none 0 0)
def yaq(g:Gnd)(hg:g.fits)(hT:g.T.length<=1000000)(n d room:Int)(hn:yu n)(hd:-1000000<=d/\d<=1000000)(hr:1<=room/\room<=4096)(rows:List (List AV))(hl:rows.length<=400)(hr5:∀row∈rows,∃(x1 x2 x3 x4:Int) (y:AV),row=[int x1,int x2,int x3,int x4,y]/\(y=nil\/∃l,y=lst 10 zz l))
  (Inv:Nat->List One->AV->List Nte->List Frm->Prop) (hI0:∀X:List One,xu g n->(1<=d/\d<=8)->(X.length:Int)=n->(∀i,(hi:i<X.length)->zfn g n d i X[i])->Inv 0 X nil [] [])
  (hIw:∀i X vm m log,Inv i X vm m log->(X.length:Int)=n/\(∀o∈X,playW o.w)/\log.length<=1000000)
  (hact:∀i,(hi:i<rows.length)->∀s hb X vp vm vl m log S,Inv i X vm m log->Sp (xi room s hb X vp vm nil nil nil vl m log [] [] []) S->
   Jb 30 [ptr s,.agg rows[i]] S λr S'=>r=.tup []/\∃X' vp' vm' vl' m' log',Inv (i+1) X' vm' m' log'/\Sp (xi room s hb X' vp' vm' nil nil nil vl' m' log' [] [] []) S'):
  Jb 8 [.agg (zw g),int n,int d,int room,.lst 5 rows none] Store.empty λr S=>(¬(xu g n/\1<=d/\d<=8)/\r=.tup [.agg [nil,nil,nil,nil,nil],int 1])∨
   ((xu g n/\1<=d/\d<=8)/\∃X vm m log hb,Inv rows.length X vm m log/\(S.obj hb=some (.cells (X.map λo=>o.vh))/\∀o∈X,AV.le o.vh (lst 1 ym o.h)/\o.vh.one=true)/\r=.tup [.agg [yc (X.map λo=>o.p.turn),.s (.slice (some ⟨hb,0,none⟩) X.length X.length),lst 8 zr (X.map λo=>o.w),lst 1 qu (X.map λo=>o.p.split),lst 3 xx log],int 0]):=by
 refine Qa (c:=cfg 156 [39,73] []) zb Tryz.func8 ?_;refine zlw g hg θ n hn _ _ (λhb=>?_) (λhp=>?_)
 ·exact ret (.inl ⟨λhh=>hb hh.1,rfl⟩)
 refine bcd (λc1=>?_) (λc1=>?_)
 ·exact absurd c1 θ
 intro s hs;have hw:=nw hp;have hper:∀k:Nat,((k+1:Nat):Int)<=n->(qj (xt ((k+1:Nat):Int) n d)↔1<=d/\d<=8):=λk hk=>zfm hp.2 ⟨θ,hk⟩
 refine AWp.loop (σ:=List One×AV) ⟨λx=>[(1,.av (int n)),(2,.av (int d)),(3,.av (int room)),(4,.av (.lst 5 rows none)),(10,.bx 10 0),(11,.av (int 0)),(12,.bx 12 0),(14,.av (ptr s)),(15,.av (int ((x.1.length+1:Nat):Int)))],
  λ_=>[(10,[nil,nil,nil,nil,nil]),(12,zr (F7 g n))],λx S=>Sp (mkP room s x.1 x.2) S/\(x.1.length:Int)<=n/\(x.1≠[]->1<=d/\d<=8)/\∀i,(hi:i<x.1.length)->zfn g n d i x.1[i],λx=>n.toNat-x.1.length⟩ zb ?_ ?_
 ·refine⟨([],nil),Tv,⟨?_,?_,λh=>absurd rfl h,λi hi=>absurd hi (Fa3 i)⟩,Qax,⟨rfl,rfl,Tv⟩⟩
  ·exact⟨_,Store.empty,(Bn _).symm,λi _ h2=>h2.elim (λh=>h rfl) (λh=>h rfl),rfl,⟨Store.empty,Store.empty,rfl,O4 _,TokR.nil 1,⟨Store.empty,Store.empty,rfl,O4 _,rfl,⟨Store.empty,Store.empty,rfl,O4 _,rfl,rfl⟩⟩⟩⟩
  ·have:=hp.2.1;show(0:Int)<=n;omega
 rintro⟨X,vp⟩ S ⟨hP,hqn,hqd,hnew⟩;dsimp only at hP hqn hqd hnew⊢;refine bcd (λc2=>?_) (λc2=>?_)
 ·have hlen:(X.length+1:Int)<=n:=θ;have hpk:=hper X.length θ;refine yii _ n d hd _ _ (λhb=>?_) (λhper1=>?_)
  ·exact za4 hw hr _ (λeb E hE hdE=>ret (.inl ⟨λhh=>hb (hpk.2 hh.2),rfl⟩))
  refine za4 hw hr _ (λeb E hE hdE=>?_);have hP1:=(hP.at 3 rfl).last hE hdE;have hs1:=(hP1.at 0 rfl).obj;refine Qc zb ybs (za (o:=(E.un S).obj s) _ hs1 ⟨λq hq=>?_,Tv⟩);have hP2:=(hP1.at 2 rfl).box hq (zo (xt ((X.length+1:Nat):Int) n d)++[ptr eb]);have hs2:=(hP2.at 0 rfl).obj;refine⟨(by repeat(first|exact Tv|refine⟨rfl,?_⟩|refine⟨za (o:=Store.obj _ _) _ hs2 rfl,?_⟩)),?_⟩;refine⟨ψ,⟨(hP2.at 1 rfl).app (ie:=ti80) rfl rfl (rows:=[[ptr q]]) rfl φ ?_ (λb S3 hP3=>⟨Tv,?_⟩),Tv⟩⟩
  ·have hn8:=hp.2.2;rw[Fac,Fal];show(X.length+1)*8<=_/\X.length+1<=_;omega
  have hs3:=(hP3.at 0 rfl).obj;refine⟨za _ rfl (xf rfl (q9 (v:=.lst 1 (X.map (λo=>[ptr o.q])++[[ptr q]]) (some b)) rfl rfl rfl rfl (ye (i:=ti71) (v:=.lst 1 (X.map (λo=>[ptr o.q])++[[ptr q]]) (some b)) (b:=s) (o:=0) rfl rfl rfl hs3 (show 0+1<=7 by decide) rfl ?_))),Tv⟩;have hP4:=(hP3.at 0 rfl).store [.lst 1 (X.map (λo=>[ptr o.q])++[[ptr q]]) (some b),nil,nil,nil,nil,nil,nil];refine⟨Tv,ze (by have:=hp.2.2;omega) ?_⟩
  let o:One:=⟨q,eb,0,xt ((X.length+1:Nat):Int) n d,F7 g n,[],.s (.slice none 0 0)⟩
  refine⟨(X++[o],.lst 1 (X.map (λo=>[ptr o.q])++[[ptr q]]) (some b)),?_,⟨?_,?_,λ_=>hpk.1 hper1,λi hi=>?_⟩,⟨Tq,Tq,Tq,Tq,Tq,Tq,Tq,Tq,?_,Tv⟩,⟨rfl,rfl,Tv⟩⟩
  ·show n.toNat-(X++[o]).length<n.toNat-X.length;rw[Fac];show _-(_+1)<_;omega
  ·dsimp only;unfold mkP;rw[Fav,Fav,Fav];exact hP4
  ·show(((X++[o]).length:Nat):Int)<=n;rw[Fac];exact hlen
  ·dsimp only at hi⊢;by_cases hlt:i<X.length
   ·rw[Fbr hlt];exact hnew i hlt
   ·have:i=X.length:=by simp at hi;omega
    subst this;simp only[Fcv (Fah _),Fc3,Fb1];exact⟨rfl,rfl,rfl,rfl,rfl⟩
  ·show LV.le (.av (int (((X.length+1:Nat):Int)+1))) (.av (int (((X++[o]).length+1:Nat):Int)));rw[Fac];exact Tq
 have hnq:n=(X.length:Int):=θ;subst hnq;have hX0:X≠[]:=λe=>by have:=hp.2.1;rw[e]at this;exact absurd this ψ
 have hX8:X.length<=8:=by have:=hp.2.2;omega
 have hd8:=hqd hX0;refine K1 rfl (it:=ti30) (ie:=ti55) rfl rfl rfl rfl rfl (n:=X.length) (by show 24*X.length<=_;omega) θ (λhb hhb=>?_);have hP1:=hP.new hhb (List.replicate X.length (.s (.slice none 0 0)));have hs1:=(hP1.at 1 rfl).obj;refine ye (i:=ti30) (v:=.s (.slice (some ⟨hb,0,none⟩) X.length X.length)) (b:=s) (o:=3) rfl rfl rfl hs1 (show 3+1<=7 by decide) rfl ?_;have hP2:=(hP1.at 1 rfl).store [vp,nil,nil,.s (.slice (some ⟨hb,0,none⟩) X.length X.length),nil,nil,nil];have hI:=hI0 X hp hd8 rfl hnew;have hvh:List.replicate X.length (AV.s (.slice none 0 0))=X.map λo=>o.vh:=by refine Fco φ λj h1 h2=>?_;have hj:j<X.length:=θs;rw[Fdi,Fb0];exact(hnew j hj).2.2.2.2.symm
 have hP3:Sp (xi room s hb X vp nil nil nil nil nil [] [] [] [] []) (((S.sO hb (.cells (List.replicate X.length (.s (.slice none 0 0)))))).sO s (.cells [vp,nil,nil,.s (.slice (some ⟨hb,0,none⟩) X.length X.length),nil,nil,nil])):=by have hq:∀{α:Type} (k:Nat) (f:α->List AV),RowsQ k f Store.empty nil []:=λk f=>.inl (.inl ⟨rfl,rfl⟩);unfold xi;rw[<-hvh];refine Sp.none (hq 8 yg) (Sp.none (TokR.nil 1) (Sp.none (TokR.nil 8) (Sp.none (TokR.nil 1) (Sp.none (TokR.nil 3) (Sp.none (Sp.allE λP hP=>?_) hP2)))));obtain⟨o,ho,rfl⟩:=Fag.1 hP;obtain⟨j,hj,rfl⟩:=Faf ho;have⟨_,_,e1,_,e2⟩:=hnew j hj;rw[e1,e2];exact TokR.nil 1
 refine AWp.loop (σ:=Nat×List One×(AV×AV×AV)×List Nte×List Frm) ⟨λx=>[(10,.bx 10 0),(14,.av (ptr s)),(84,.av (.lst 5 rows none)),(85,.av (int (rows.length:Nat))),(86,.av (int (x.1:Nat)))],λ_=>[(10,[nil,nil,nil,nil,nil])],
  λx S'=>x.1<=rows.length/\Inv x.1 x.2.1 x.2.2.1.2.1 x.2.2.2.1 x.2.2.2.2/\Sp (xi room s hb x.2.1 x.2.2.1.1 x.2.2.1.2.1 nil nil nil x.2.2.1.2.2 x.2.2.2.1 x.2.2.2.2 [] [] []) S',λx=>rows.length-x.1⟩ zb ?_ ?_
 ·exact⟨(0,X,(vp,nil,nil),[],[]),Tv,⟨Fae _,hI,hP3⟩,Qax,⟨rfl,Tv⟩⟩
 clear hI hP3 hnew hqn hqd;rintro⟨i,X,⟨vp,vm,vl⟩,m,log⟩ S' ⟨hi,hI,hP⟩;dsimp only at hi hI hP⊢;refine bcd (λc3=>?_) (λc3=>?_)
 ·have hlt:i<rows.length:=θ;refine⟨i,rfl,za _ (Fab hlt) ?_⟩;have ha:=hact i hlt s hb X vp vm vl m log S' hI hP;have⟨x1,x2,x3,x4,y,er,hy⟩:=hr5 _ (Faa hlt);rw[er]at ha⊢;rcases hy with rfl|⟨l,rfl⟩
  all_goals
   refine ha.imp ?_;rintro r S3 ⟨rfl,X',vp',vm',vl',m',log',hI',hP'⟩;exact Qd ⟨(i+1,X',(vp',vm',vl'),m',log'),ϑ,⟨hlt,hI',hP'⟩,Qax,⟨rfl,Tv⟩⟩
 have hil:i=rows.length:=θ;subst hil;have⟨hXl,hXw,hlg⟩:=hIw _ _ _ _ _ hI;have hX1:X≠[]:=λe=>by rw[e]at hXl;simp at hXl;have:=Fcu.2 hX0;omega
 have hX18:X.length<=8:=θ;obtain⟨t,rfl⟩:=Lv hP hX1;refine za (o:=S'.obj s) _ (Ci hP) ?_
 refine AWp.loop (σ:=Nat×AV×AV×AV) ⟨λx=>[(10,.bx 10 0),(14,.av (ptr s)),(97,.av (.lst 1 (X.map λo=>[ptr o.q]) (some t))),(98,.av (int (X.length:Nat))),(99,.av (int (x.1:Nat)))],λ_=>[(10,[nil,nil,nil,nil,nil])],
  λx S2=>x.1<=X.length/\Sp (xi room s hb X (.lst 1 (X.map λo=>[ptr o.q]) (some t)) vm x.2.1 x.2.2.1 x.2.2.2 vl m log ((X.take x.1).map λo=>o.p.turn) ((X.take x.1).map λo=>o.w) ((X.take x.1).map λo=>o.p.split)) S2,λx=>X.length-x.1⟩ zb ?_ ?_
 ·refine⟨(0,nil,nil,nil),Tv,⟨Fae _,hP⟩,⟨Tq,Tq,Tq,?_,Tq,Tv⟩,⟨rfl,Tv⟩⟩;rw[<-Fal (f:=λo:One=>[ptr o.q])];exact Tq
 clear hP;rintro⟨j,vT,vW,vS⟩ S3 ⟨hj,hP⟩;dsimp only at hj hP⊢;refine bcd (λc4=>?_) (λc4=>?_)
 ·have hlt:j<X.length:=θ;refine⟨j,rfl,za _ (wx _ hlt) ?_⟩;have tk:∀{α:Type} (f:One->α),(X.take (j+1)).map f=(X.take j).map f++[f X[j]]:=λf=>by rw[Fad hlt,Fav];rfl
  have hq3:=Hh hP hlt;refine Qc zb ybr (za (o:=S3.obj s) _ (Ci hP) (za (o:=S3.obj X[j].q) _ hq3 ⟨ψ,⟨(hP.at 1 rfl).app (ie:=ti2) rfl rfl (rows:=[zn X[j].p.turn]) rfl φ ?_ (λb1 S11 hQ1=>⟨Tv,?_⟩),Tv⟩⟩))
  ·simp only[Fac,zi,Fan,Fal,Fai];show(min j X.length+1)*8<=_/\min j X.length+1<=_;omega
  have hs1:=(hQ1.at 7 rfl).obj;refine⟨za _ rfl (xf rfl (q9 (v:=.lst 1 (rws zn ((X.take j).map λo=>o.p.turn)++[zn X[j].p.turn]) (some b1)) rfl rfl rfl rfl (ye (i:=ti29) (v:=.lst 1 (rws zn ((X.take j).map λo=>o.p.turn)++[zn X[j].p.turn]) (some b1)) (b:=s) (o:=2) rfl rfl rfl hs1 (show 2+1<=7 by decide) rfl ⟨Tv,?_⟩))),Tv⟩;have hR1:=(hQ1.at 7 rfl).store [(.lst 1 (X.map λo=>[ptr o.q]) (some t)),vm,(.lst 1 (rws zn ((X.take j).map λo=>o.p.turn)++[zn X[j].p.turn]) (some b1)),.s (.slice (some ⟨hb,0,none⟩) X.length X.length),vW,vS,vl];have hP5:Sp (xi room s hb X (.lst 1 (X.map λo=>[ptr o.q]) (some t)) vm (.lst 1 (rws zn ((X.take j).map λo=>o.p.turn)++[zn X[j].p.turn]) (some b1)) vW vS vl m log ((X.take (j+1)).map λo=>o.p.turn) ((X.take j).map λo=>o.w) ((X.take j).map λo=>o.p.split)) (S11.sO s (.cells (zq [(.lst 1 (X.map λo=>[ptr o.q]) (some t)),vm,vT,.s (.slice (some ⟨hb,0,none⟩) X.length X.length),vW,vS,vl] 2 [.lst 1 (rws zn ((X.take j).map λo=>o.p.turn)++[zn X[j].p.turn]) (some b1)]))):=by rw[tk (λo=>o.p.turn)];unfold xi;rw[show rws zn ((X.take j).map (λo=>o.p.turn)++[X[j].p.turn])=rws zn ((X.take j).map λo=>o.p.turn)++[zn X[j].p.turn]from Fav];exact hR1
  generalize S11.sO s (.cells (zq [(.lst 1 (X.map λo=>[ptr o.q]) (some t)),vm,vT,.s (.slice (some ⟨hb,0,none⟩) X.length X.length),vW,vS,vl] 2 [.lst 1 (rws zn ((X.take j).map λo=>o.p.turn)++[zn X[j].p.turn]) (some b1)]))=S6 at*;generalize hvT:AV.lst 1 (rws zn ((X.take j).map λo=>o.p.turn)++[zn X[j].p.turn]) (some b1)=uT at*;have hs5:=Ci hP5;have hq5:=Hh hP5 hlt;have hwj:=hXw X[j] (Faa hlt);refine Qc zb ybq (Qbc (za (o:=S6.obj X[j].q) _ hq5 ?_));refine⟨((hP5.at 10 rfl).at (P:=EngR X[j].eb room X[j].k X[j].w) j (wx _ hlt)).look (xs:=[ptr X[j].eb]) (.agg (zr X[j].w)) (λa ha T hT=>zij ha hwj.sizes T hT) ⟨(by repeat(first|exact Tv|refine⟨rfl,?_⟩|refine⟨za (o:=Store.obj _ _) _ hs5 rfl,?_⟩)),?_⟩,Tv⟩;refine⟨ψ,?_⟩;refine⟨(hP5.at 2 rfl).app (ie:=ti46) rfl rfl (rows:=[zr X[j].w]) rfl φ ?_ (λb2 S12 hQ2=>⟨Tv,?_⟩),Tv⟩
  ·simp only[Fac,zi,Fan,Fal,Fai];show(min j X.length+1)*112<=_/\min j X.length+1<=_;omega
  have hs2:=(hQ2.at 7 rfl).obj;refine⟨za _ rfl (xf rfl (q9 (v:=.lst 8 (rws zr ((X.take j).map λo=>o.w)++[zr X[j].w]) (some b2)) rfl rfl rfl rfl (ye (i:=ti31) (v:=.lst 8 (rws zr ((X.take j).map λo=>o.w)++[zr X[j].w]) (some b2)) (b:=s) (o:=4) rfl rfl rfl hs2 (show 4+1<=7 by decide) rfl ⟨Tv,?_⟩))),Tv⟩;have hR2:=(hQ2.at 7 rfl).store [(.lst 1 (X.map λo=>[ptr o.q]) (some t)),vm,uT,.s (.slice (some ⟨hb,0,none⟩) X.length X.length),(.lst 8 (rws zr ((X.take j).map λo=>o.w)++[zr X[j].w]) (some b2)),vS,vl];have hP6:Sp (xi room s hb X (.lst 1 (X.map λo=>[ptr o.q]) (some t)) vm uT (.lst 8 (rws zr ((X.take j).map λo=>o.w)++[zr X[j].w]) (some b2)) vS vl m log ((X.take (j+1)).map λo=>o.p.turn) ((X.take (j+1)).map λo=>o.w) ((X.take j).map λo=>o.p.split)) (S12.sO s (.cells (zq [(.lst 1 (X.map λo=>[ptr o.q]) (some t)),vm,uT,.s (.slice (some ⟨hb,0,none⟩) X.length X.length),vW,vS,vl] 4 [.lst 8 (rws zr ((X.take j).map λo=>o.w)++[zr X[j].w]) (some b2)]))):=by rw[tk (λo=>o.w)];unfold xi;rw[show rws zr ((X.take j).map (λo=>o.w)++[X[j].w])=rws zr ((X.take j).map λo=>o.w)++[zr X[j].w]from Fav];exact hR2
  generalize S12.sO s (.cells (zq [(.lst 1 (X.map λo=>[ptr o.q]) (some t)),vm,uT,.s (.slice (some ⟨hb,0,none⟩) X.length X.length),vW,vS,vl] 4 [.lst 8 (rws zr ((X.take j).map λo=>o.w)++[zr X[j].w]) (some b2)]))=S7 at*;generalize hvW:AV.lst 8 (rws zr ((X.take j).map λo=>o.w)++[zr X[j].w]) (some b2)=uW at*;have hs6:=Ci hP6;have hq6:=Hh hP6 hlt;refine Qc zb ybp (Qbc (za (o:=S7.obj X[j].q) _ hq6 ?_));refine⟨ψ,⟨(hP6.at 3 rfl).app (ie:=ti4) rfl rfl (rows:=[qu X[j].p.split]) rfl φ ?_ (λb3 S13 hQ3=>⟨Tv,?_⟩),Tv⟩⟩
  ·simp only[Fac,zi,Fan,Fal,Fai];show(min j X.length+1)*1<=_/\min j X.length+1<=_;omega
  have hs3:=(hQ3.at 7 rfl).obj;refine⟨za _ rfl (xf rfl (q9 (v:=.lst 1 (rws qu ((X.take j).map λo=>o.p.split)++[qu X[j].p.split]) (some b3)) rfl rfl rfl rfl (ye (i:=ti32) (v:=.lst 1 (rws qu ((X.take j).map λo=>o.p.split)++[qu X[j].p.split]) (some b3)) (b:=s) (o:=5) rfl rfl rfl hs3 (show 5+1<=7 by decide) rfl ⟨Tv,?_⟩))),Tv⟩;have hR3:=(hQ3.at 7 rfl).store [(.lst 1 (X.map λo=>[ptr o.q]) (some t)),vm,uT,.s (.slice (some ⟨hb,0,none⟩) X.length X.length),uW,(.lst 1 (rws qu ((X.take j).map λo=>o.p.split)++[qu X[j].p.split]) (some b3)),vl];refine Qd ⟨(j+1,uT,uW,.lst 1 (rws qu ((X.take j).map λo=>o.p.split)++[qu X[j].p.split]) (some b3)),ϑ,⟨hlt,?_⟩,Qax,⟨rfl,Tv⟩⟩;dsimp only;rw[tk (λo=>o.p.split)];unfold xi;rw[show rws qu ((X.take j).map (λo=>o.p.split)++[X[j].p.split])=rws qu ((X.take j).map λo=>o.p.split)++[qu X[j].p.split]from Fav];exact hR3
 have hil:j=X.length:=θ;subst hil;rw[Faj]at hP;have tok:∀{k:Nat} {v:AV} {l:List (List AV)} {K:(Store->Prop)->Store->Prop},Foc (TokR k v l) K S3->(v=nil/\l=[])\/∃t,v=.lst k l (some t):=λh=>by
  have⟨a,g,_,_,ht,_⟩:=h;rcases ht with⟨e1,e2,_⟩|⟨_,t,e,_⟩
  ·exact .inl ⟨e2,e1⟩
  ·exact .inr ⟨t,e⟩
 have ne:∀{α:Type} (f:One->α) (g:α->List AV),rws g (X.map f)≠[]:=λf g e=>hX1 (Fd0.1 (Fd0.1 e));have hs9:=Ci hP;have hvh3:S3.obj hb=some (.cells (X.map λo=>o.vh))/\∀o∈X,AV.le o.vh (lst 1 ym o.h)/\o.vh.one=true:=⟨nj hP,λo ho=>by obtain⟨j,hj,rfl⟩:=Faf ho;have⟨a,g,_,_,ht,_⟩:=(hP.at 5 rfl).at (P:=TokR 1 X[j].vh (rws ym X[j].h)) j (wx _ hj);refine⟨ht.le,?_⟩;rcases ht with⟨_,e,_⟩|⟨_,t,e,_⟩<;>rw[e]<;>rfl⟩
 have⟨t1,e1⟩:=(tok (hP.at 1 rfl)).resolve_left λh=>ne _ _ h.2;have⟨t2,e2⟩:=(tok (hP.at 2 rfl)).resolve_left λh=>ne _ _ h.2;have⟨t3,e3⟩:=(tok (hP.at 3 rfl)).resolve_left λh=>ne _ _ h.2;have e4:=tok (hP.at 4 rfl);clear hP;subst e1 e2 e3;rcases e4 with⟨rfl,e4⟩|⟨t4,rfl⟩
 ·have elog:log=[]:=Fd0.1 e4;subst elog;refine Qbc ?_;refine zd8 (r:=.tup [.agg [yc (X.map λo=>o.p.turn),.s (.slice (some ⟨hb,0,none⟩) X.length X.length),lst 8 zr (X.map λo=>o.w),lst 1 qu (X.map λo=>o.p.split),lst 3 xx []],int 0]) ?_ (.inr ⟨⟨hp,hd8⟩,X,vm,m,[],hb,hI,hvh3,rfl⟩);exact rf (AV.le_aggL ⟨AV.le_tok _ _ _,Tt,AV.le_tok _ _ _,AV.le_tok _ _ _,AV.le_nil 3,Tv⟩) (Tt)
 ·refine Qbc ?_;refine zd8 (r:=.tup [.agg [yc (X.map λo=>o.p.turn),.s (.slice (some ⟨hb,0,none⟩) X.length X.length),lst 8 zr (X.map λo=>o.w),lst 1 qu (X.map λo=>o.p.split),lst 3 xx log],int 0]) ?_ (.inr ⟨⟨hp,hd8⟩,X,vm,m,log,hb,hI,hvh3,rfl⟩);exact rf (AV.le_aggL ⟨AV.le_tok _ _ _,Tt,AV.le_tok _ _ _,AV.le_tok _ _ _,AV.le_tok _ _ _,Tv⟩) (Tt)
def ysi{c:Cmd}(h:vq c):c.U.length<=64:=by
 have⟨h1,_,_,h4⟩:=h;have e:=congrArg Cmd.U h4;have hn:c.U=[]\/Cz c.U:=by
  rcases h1 with h|h|h|h|h|h|h
  ·rw[Cmd.only1 h.1]at e;exact .inl e.symm
  ·exact .inr h.2.1
  ·exact .inr h.2
  ·rw[Cmd.only4 h.1]at e;exact .inl e.symm
  ·rw[Cmd.only5 h.1]at e;exact .inl e.symm
  ·exact .inr h.2.1
  ·rw[Cmd.only7 h.1]at e;exact .inl e.symm
 rcases hn with h|h
 ·rw[h];exact Fae _
 ·exact h.1.2
def de{i:Inp}(h:Bd i):i.fits/\small i.C:=by
 have⟨_,_,h3,h4⟩:=h;have hu:∀c∈i.C,c.U.length<=64:=λc hc=>by obtain⟨j,hj,rfl⟩:=Faf hc;exact ysi (h3 j hj).1
 exact⟨⟨θ,λc hc=>Fbx (hu c hc) ψ⟩,θ,λc hc=>Fbx (hu c hc) ψ⟩
def C9{l:List Int}{x:Int}(h:x∈l):yy l<=x:=by
 have key:∀(l:List Int) (a:Int),l.foldl min a<=a/\∀x∈l,l.foldl min a<=x:=by
  intro l;induction l with
  |nil=>exact λa=>⟨Fcr _,λx hx=>nomatch hx⟩
  |cons y l ih=>
   intro a;have⟨h1,h2⟩:=ih (min a y);rw[Fcy];refine⟨θ,λx hx=>?_⟩;rcases Faw.1 hx with rfl|hx
   ·omega
   ·exact h2 x hx
 cases l with
 |nil=>cases h
 |cons a l=>
  rcases Faw.1 h with rfl|h
  ·exact(key l _).1
  ·exact(key l a).2 x h
def rg{l:List Int}{x:Int}(h:x∈l):x<=F9 l:=by
 have key:∀(l:List Int) (a:Int),a<=l.foldl max a/\∀x∈l,x<=l.foldl max a:=by
  intro l;induction l with
  |nil=>exact λa=>⟨Fcr _,λx hx=>nomatch hx⟩
  |cons y l ih=>
   intro a;have⟨h1,h2⟩:=ih (max a y);rw[Fcy];refine⟨θ,λx hx=>?_⟩;rcases Faw.1 hx with rfl|hx
   ·omega
   ·exact h2 x hx
 cases l with
 |nil=>cases h
 |cons a l=>
  rcases Faw.1 h with rfl|h
  ·exact(key l _).1
  ·exact(key l a).2 x h
def cq{l:List Int}{a:Int}(h0:0<l.length)(h:∀x∈l,a<=x):a<=yy l:=h _ (R0 h0)
def zgi{l:List Int}{a:Int}(h0:0<l.length)(h:∀x∈l,x<=a):F9 l<=a:=h _ (zgh h0)
def mem_set{l:List Int}{i:Nat}{v x:Int}(h:x∈l.set i v):x=v\/x∈l:=(Fep h).symm
def ykj{l:List Int}{i:Nat}(hi:i<l.length)(h2:2<=l.length)(hm:∀x∈l,x<=l[i]){v:Int}(hv:l[i]<=v):yy (l.set i v)=yy l:=by
 have h0:0<l.length:=θ;have h0':0<(l.set i v).length:=by rw[Fak];exact h0
 have a1:yy l<=yy (l.set i v):=cq h0' λx hx=>by
  rcases mem_set hx with rfl|hx
  ·exact Feb (C9 (Faa hi)) hv
  ·exact C9 hx
 have a2:yy (l.set i v)<=yy l:=by
  have⟨k,hk,e⟩:=Faf (R0 h0);have get:∀j,(hj:j<l.length)->i≠j->yy (l.set i v)<=l[j]:=λj hj hij=>by exact C9 (Fa4 (i:=j) (by rw[Fc2 hij];exact Fab hj))
  by_cases e2:i=k
  ·subst e2;obtain⟨j,hj,hne⟩:∃j,j<l.length/\i≠j:=if h:i=0 then⟨1,θ,θ⟩else⟨0,h0,h⟩
   have:=get j hj hne;have h3:=hm _ (Faa hj);omega
  ·have:=get k hk e2;omega
 omega
def risesI_iff{l:List Inp}:Di l↔(∀x∈l,Bd x)/\l.Pairwise qy:=by refine⟨λh=>⟨λx hx=>?_,Fbz.2 λi j hi hj hij=>Wr h hj hij⟩,λ⟨h1,h2⟩ j hj=>⟨h1 _ (Faa hj),λh0=>Fbz.1 h2 (j-1) j θ hj θ⟩⟩;obtain⟨j,hj,rfl⟩:=Faf hx;exact(h j hj).1
def nf:∀{l:List Inp} {a b:Int},a<=b+1->l.Pairwise qy->(∀x∈l,(1<=x.p/\x.p<=8)/\a<=x.t*9+x.p/\x.t*9+x.p<=b)->(l.length:Int)<=b-a+1
 |[],a,b,h0,_,_=>χ
 |x::l,a,b,h0,hp,h=>by
  have⟨h1,h2⟩:=Fb6.1 hp;have hx:=h x Fa1;have:=nf (a:=x.t*9+x.p+1) (b:=b) θ h2 λy hy=>by have h3:=h1 y hy;have h4:=h y (Fau _ hy);unfold qy at h3;omega
  rw[Fbf];omega
theorem zg6(y x:Inp)(l:List Inp):j5 (y::l) x=if qy y x then y::j5 l x else x::y::l:=by unfold j5;by_cases h:qy y x<;>simp[List.takeWhile,List.dropWhile,h]
theorem mem_insI{x y:Inp}:∀{l:List Inp},y∈j5 l x↔y=x\/y∈l
 |[]=>by simp[j5]
 |z::l=>by
  rw[zg6];split
  ·rw[Faw,mem_insI,Faw];exact⟨λh=>by rcases h with h|h|h<;>simp[h],λh=>by rcases h with h|h|h<;>simp[h]⟩
  ·simp[Faw]
def zg5{x:Inp}:∀{l:List Inp},l.Pairwise qy->¬Cn l x->(j5 l x).Pairwise qy
 |[],_,_=>by simp[j5]
 |y::l,hp,hn=>by
  have⟨h1,h2⟩:=Fb6.1 hp;rw[zg6];split
  ·rename_i h;refine Fb6.2 ⟨λz hz=>?_,zg5 h2 λ⟨z,hz,e⟩=>hn ⟨z,Fau _ hz,e⟩⟩;rcases mem_insI.1 hz with rfl|hz
   ·exact h
   ·exact h1 z hz
  ·rename_i h;have hxy:qy x y:=by
    have:¬(y.t=x.t/\y.p=x.p):=λe=>hn ⟨y,Fa1,e⟩;unfold qy at h⊢;omega
   refine Fb6.2 ⟨λz hz=>?_,hp⟩;rcases Faw.1 hz with rfl|hz
   ·exact hxy
   ·exact R5 hxy (h1 z hz)
def zg4{l:List Inp}{x:Inp}(h:Di l)(hx:Bd x)(hn:¬Cn l x):Di (j5 l x):=by
 have⟨h1,h2⟩:=risesI_iff.1 h;refine risesI_iff.2 ⟨λy hy=>?_,zg5 h2 hn⟩;rcases mem_insI.1 hy with rfl|hy
 ·exact hx
 ·exact h1 y hy
def ypw{l:List Inp}(h:Di l)(q:Inp->Bool):Di (l.filter q):=by have⟨h1,h2⟩:=risesI_iff.1 h;exact risesI_iff.2 ⟨λy hy=>h1 y (Fbd.1 hy).1,h2.filter q⟩
def inputs_iff{p:Per}:cz p↔∀x∈p.inputs,p.turn<=x.t/\x.p<=p.players/\∀h:(x.p-1).toNat<p.has.length,x.t<=p.has[(x.p-1).toNat]:=by refine⟨λh x hx=>?_,λh j hj=>h _ (Faa hj)⟩;obtain⟨j,hj,rfl⟩:=Faf hx;exact h j hj
section
variable {p:Per}
def yio(hp:qj p)(ht:p.turn<=900000):p.fits/\Ag p:=by
 have⟨⟨hpl,hid,hd,ht0⟩,hs,hh,ha,hm1,hm2,hl1,hl2,⟨hm3,hm4⟩,hr,hi⟩:=hp;have ha0:0<p.acked.length:=θ8;have hlow:=(ha.mem (R0 ha0)).1;have hml:p.mine.length<=1000000:=θ;have⟨h1,h2⟩:=risesI_iff.1 hr;have hil:(p.inputs.length:Int)<=(p.turn+16)*9+8-(p.turn*9)+1:=nf θ h2 λx hx=>by
  have hp:=(h1 x hx).2.1;have h3:=inputs_iff.1 hi x hx;have hb:(x.p-1).toNat<p.has.length:=by have:=hh.2.1;omega
  have:=h3.2.2 hb;have:=(hh.1 _ hb).2.1;omega
 have f1:∀i∈p.mine,i.fits/\small i.C:=λi hi=>by obtain⟨j,hj,rfl⟩:=Faf hi;exact de (hm4 j hj).1
 have f2:∀i∈p.inputs,i.fits/\small i.C:=λi hi=>de (h1 i hi);have l1:=hh.2.1;have l2:=ha.2.1;exact⟨⟨⟨θ,λi hi=>(f1 i hi).1⟩,⟨θ,λi hi=>(f2 i hi).1⟩,θ,θ,θ⟩,⟨hml,λi hi=>(f1 i hi).2⟩,⟨θ,λi hi=>(f2 i hi).2⟩,θ,θ,θ⟩
def zk2:∀{l:List Inp},(∀i∈l,Bd i)->(Aq l).length<=64*l.length
 |[],_=>Fah _
 |i::l,h=>by have h1:=(h i Fa1).2.2.2;have h2:=zk2 λi hi=>h i (Fau _ hi);show(i.C++Aq l).length<=_;rw[Fac,Fbf];omega
def zex(hp:qj p):(nextC p).length<=512/\∀c∈nextC p,c.fits:=by
 have⟨h1,h2⟩:=risesI_iff.1 hp.2.2.2.2.2.2.2.2.2.1;have hm:∀x∈ofT p.turn p.inputs,Bd x/\x.t=p.turn:=λx hx=>by have⟨h3,h4⟩:=Fbd.1 hx;exact⟨h1 x h3,by simpa using h4⟩
 have hl:((ofT p.turn p.inputs).length:Int)<=p.turn*9+8-(p.turn*9+1)+1:=nf θ (h2.filter _) λx hx=>by have⟨h3,h4⟩:=hm x hx;have:=h3.2.1;rw[h4];omega
 have:=zk2 λi hi=>(hm i hi).1;refine⟨?_,λc hc=>?_⟩
 ·show(Aq _).length<=_;omega
 ·have⟨i,hi,hci⟩:=List.mem_flatMap.1 hc;exact(de (hm i hi).1).1.2 c hci
def yft(hp:qj p)(l:List Cmd):¬Cn p.inputs (j3 p l):=by
 rintro⟨y,hy,hy1,hy2⟩;have hy1:y.t=p.said+1:=hy1;have hy2:y.p=p.id:=hy2;have g2:=(inputs_iff.1 hp.2.2.2.2.2.2.2.2.2.2 y hy).2.2;rw[hy2]at g2;have hlt:(p.id-1).toNat<p.has.length:=by have:=hp.2.2.1.2.1;have:=hp.1.2.1;omega
 have g3:=g2 hlt;rw[hp.2.2.1.2.2 hlt]at g3;omega
def tf{l:List Cmd}(h:jt p l=0):qj p/\p.said≠p.turn+p.delay-1/\p.said≠maxT/\Nw p.id l:=by
 unfold jt at h;by_cases h1:qj p
 ·rw[if_neg (λhh=>hh h1)]at h;by_cases h2:p.said=p.turn+p.delay-1\/p.said=1099511627776
  ·rw[if_pos h2]at h;cases h
  ·rw[if_neg h2]at h;by_cases h3:Nw p.id l
   ·exact⟨h1,λe=>h2 (.inl e),λe=>h2 (.inr e),h3⟩
   ·rw[if_pos h3]at h;cases h
 ·rw[if_pos h1]at h;cases h
def fj{l:List Int}{q:Per}(h:countsP p l){i:Nat}{v:Int}(e1:q.delay=p.delay)(e2:q.turn=p.turn)(e3:q.players=p.players)(hv:p.delay-1<=v/\v<=p.turn+16/\v<=maxT)(hs:(q.id-1).toNat<l.length->(l.set i v)[(q.id-1).toNat]?=some q.said):countsP q (l.set i v):=by
 refine⟨λj hj=>?_,by rw[Fak,e3];exact h.2.1,λhj=>?_⟩
 ·rw[e1,e2];rcases mem_set (Faa hj)with e|e
  ·rw[e];exact hv
  ·exact h.mem e
 ·have:=hs (by rw[Fak]at hj;exact hj);rw[Fab hj]at this;exact Option.some.inj this
def yfu{l:List Cmd}(he:jt p l=0):qj (jj p l):=by
 have⟨hp,hs1,hs2,hsd⟩:=tf he;have hno:=yft hp l;have⟨⟨hpl,hid,hd,ht0⟩,hs,hh,ha,hm1,hm2,hl1,hl2,⟨hm3,hm4⟩,hr,hi⟩:=hp;have hih:(p.id-1).toNat<p.has.length:=by have:=hh.2.1;omega
 have hia:(p.id-1).toNat<p.acked.length:=θ8;have hsh:=hh.2.2 hih;have hsa:=ha.2.2 hia;have hip:Bd (j3 p l):=⟨⟨(show 0<=p.said+1 by omega),(show p.said+1<=maxT by omega)⟩,(show 1<=p.id/\p.id<=8 by omega),hsd⟩
 have hmin:p.turn-1<=p.said:=by rw[<-hsh];exact Feb hm1 (C9 (Faa hih))
 have hset:∀{l:List Int} (i:Nat),i<l.length->(l.set i (p.said+1))[i]?=some (p.said+1):=λi h=>Fdj h;have h0:0<p.has.length:=θ;have h0a:0<p.acked.length:=θ;refine⟨⟨hpl,hid,hd,ht0⟩,⟨?_,?_,?_⟩,fj hh rfl rfl rfl ⟨θ,θ,θ⟩ (hset _),fj ha rfl rfl rfl ⟨θ,θ,θ⟩ (hset _),?_,?_,hl1,hl2,?_,zg4 hr hip hno,inputs_iff.2 λx hx=>?_⟩
 ·show p.delay-1<=p.said+1;omega
 ·show p.said+1<=p.turn+p.delay-1;omega
 ·show p.said+1<=maxT;omega
 ·refine cq (by show 0<(p.has.set _ _).length;rw[Fak];exact h0) λx hx=>?_;show p.turn-1<=x;rcases mem_set hx with rfl|hx
  ·omega
  ·exact Feb hm1 (C9 hx)
 ·refine zgi (by show 0<(p.acked.set _ _).length;rw[Fak];exact h0a) λx hx=>?_;show x<=p.said+1;rcases mem_set hx with rfl|hx
  ·omega
  ·have:=rg hx;omega
 ·by_cases hp1:p.players>1
  ·have em:(jj p l).mine=p.mine++[j3 p l]:=if_pos hp1;have hmm:=ykj hia θ8 (λx hx=>by have:=rg hx;omega) (v:=p.said+1) θ;refine⟨?_,λj hj=>?_⟩
   ·rw[em,Fac];show _=p.said+1-yy (p.acked.set _ (p.said+1));rw[hmm];show((p.mine.length+1:Nat):Int)=_;omega
   ·have hj2:j<(p.mine++[j3 p l]).length:=by rw[<-em];exact hj
    have eg:(jj p l).mine[j]=(p.mine++[j3 p l])[j]:=by simp only[em]
    rw[eg,em];show Bd _/\_=p.id/\_=p.said+1-((p.mine++[j3 p l]).length:Int)+1+j;rw[Fac]at hj2⊢;have hj3:j<p.mine.length+1:=hj2;show _/\_/\_=p.said+1-((p.mine.length+1:Nat):Int)+1+j;by_cases hlt:j<p.mine.length
    ·rw[Fbr hlt];have:=hm4 j hlt;exact⟨this.1,this.2.1,θ⟩
    ·have:j=p.mine.length:=θ;subst this;simp only[Fcv (Fah _),Fc3,Fb1];exact⟨hip,rfl,(show p.said+1=_ by omega)⟩
  ·have em:(jj p l).mine=p.mine:=if_neg hp1;have hla:p.acked.length=1:=by have:=ha.2.1;omega
   have⟨x,hx⟩:=List.length_eq_one_iff.1 hla;have hid0:(p.id-1).toNat=0:=θ;have hx1:x=p.said:=by
    have:p.acked[(p.id-1).toNat]?=some p.said:=by rw[Fab hia,hsa]
    rw[hx,hid0]at this;exact Option.some.inj this
   have hm0:p.mine=[]:=by rw[hx]at hm3;have:yy [x]=x:=rfl;exact Fa0 θ
   refine⟨?_,λj hj=>?_⟩
   ·rw[em,hm0];show((0:Nat):Int)=p.said+1-yy (p.acked.set _ (p.said+1));rw[hx,hid0];show(0:Int)=p.said+1-(p.said+1);omega
   ·rw[em,hm0]at hj;exact absurd hj (Fa3 j)
 ·show p.turn<=x.t/\x.p<=p.players/\∀h:(x.p-1).toNat<(p.has.set _ (p.said+1)).length,x.t<=(p.has.set _ (p.said+1))[(x.p-1).toNat]
  rcases mem_insI.1 hx with rfl|hx
  ·exact⟨(show p.turn<=p.said+1 by omega),(show p.id<=p.players by omega),λh=>Int.le_of_eq (Fcx (i:=(p.id-1).toNat) h).symm⟩
  ·have⟨a1,a2,a3⟩:=inputs_iff.1 hi x hx;refine⟨a1,a2,λh=>?_⟩;rw[Fak]at h;have:=a3 h;rw[Fct];split
   ·rename_i e;have e2:p.has[(x.p-1).toNat]=p.said:=by rw[<-hsh];congr 1;exact e.symm
    omega
   ·exact this
end
def zid{m:Int}:∀{l:List Inp} {a:Int},(∀j,(hj:j<l.length)->l[j].t=a+j)->l.filter (nq λi=>decide (i.t<=m))=l.drop (m+1-a).toNat
 |[],a,_=>φ
 |x::l,a,h=>by
  have hx:x.t=a:=by have:=h 0 (Nat.zero_lt_succ _);simp only[Fb1]at this;omega
  have ih:=zid (m:=m) (l:=l) (a:=a+1) λj hj=>by have:=h (j+1) (Nat.succ_lt_succ hj);simp only[List.getElem_cons_succ]at this;omega
  by_cases hm:a<=m
  ·rw[show(m+1-a).toNat=(m+1-(a+1)).toNat+1 by omega,List.drop_succ_cons,<-ih];refine List.filter_cons_of_neg ?_;simp[nq,hx,hm]
  ·rw[show(m+1-a).toNat=0 by omega,Fda];rw[show(m+1-(a+1)).toNat=0 by omega,Fda]at ih;rw[List.filter_cons_of_pos (by simp[nq,hx];omega),ih]
def Rp(p:Per):qj p->0<p.has.length/\0<p.acked.length/\(p.id-1).toNat<p.has.length/\(p.id-1).toNat<p.acked.length:=λhp=>φb
section
variable {p:Per}
def yhk(hp:qj p)(hc:Cr p)(h:Int):qj (qk p h):=by
 have⟨h0,h0a,hih,hia⟩:=Rp p hp;have⟨⟨hpl,hid,hd,ht0⟩,hs,hh,ha,hm1,hm2,hl1,hl2,hm,hr,hi⟩:=hp;have cn:∀{l:List Int},countsP p l->countsP (qk p h) l:=λhq=>by refine⟨λj hj=>?_,hq.2.1,hq.2.2⟩;show p.delay-1<=_/\_<=p.turn+1+16/\_;have:=hq.1 j hj;omega
 have hcl:=hc.1;have hct:=hc.2;have hlen:(qk p h).hashes.length<=16/\(qk p h).hashes.length<=p.hashes.length+1:=by
  unfold qk;dsimp only;split
  ·rw[Fbk,Fac,Fan];omega
  ·rw[Fac,Fan];omega
 refine⟨⟨hpl,hid,hd,?_⟩,⟨hs.1,?_,hs.2.2⟩,cn hh,cn ha,?_,hm2,hlen.1,?_,hm,ypw hr _,inputs_iff.2 λx hx=>?_⟩
 ·show 0<=p.turn+1/\p.turn+1<=maxT;omega
 ·show p.said<=p.turn+1+p.delay-1;omega
 ·show p.turn+1-1<=yy p.has;omega
 ·have:=hlen.2;show((qk p h).hashes.length:Int)<=p.turn+1;omega
 ·have⟨hx1,hx2⟩:=Fbd.1 (show x∈Dk p.turn p.inputs from hx);have⟨a1,a2,a3⟩:=inputs_iff.1 hi x hx1;have:x.t≠p.turn:=by simpa using hx2
  exact⟨(show p.turn+1<=x.t by omega),a2,a3⟩
def el{n:Nte}(h:jr p n=0):qj p/\Ck n/\n.dst=p.id/\n.src<=p.players/\n.inp.t<=p.turn+16:=by
 unfold jr at h;by_cases h1:¬qj p\/¬Ck n\/n.dst≠p.id\/n.src>p.players
 ·rw[if_pos h1]at h;cases h
 ·rw[if_neg h1]at h;by_cases h2:n.inp.t>p.turn+16
  ·rw[if_pos h2]at h;cases h
  ·exact⟨Classical.byContradiction λhh=>h1 (.inl hh),Classical.byContradiction λhh=>h1 (.inr (.inl hh)),Classical.byContradiction λhh=>h1 (.inr (.inr (.inl hh))),Classical.byContradiction λhh=>h1 (.inr (.inr (.inr θ))),θ⟩
def zcc(hp:qj p){n:Nte}(hn:Ck n)(hpl:n.src<=p.players)(c6:n.inp.t=p.has.getD (n.src-1).toNat 0+1):Bd n.inp/\n.inp.p=n.src/\¬Cn p.inputs n.inp:=by
 have⟨h0,h0a,hih,hia⟩:=Rp p hp;have hsl:(n.src-1).toNat<p.has.length:=by have h1:=hn.1;have h2:=hp.2.2.1.2.1;omega
 have hgh:p.has.getD (n.src-1).toNat 0=p.has[(n.src-1).toNat]:=by rw[Fao,Fab hsl];rfl
 have hhb:=hp.2.2.1.1 _ hsl;have hde:=hp.1.2.2.1;have hn7:=hn.2.2.2.2.2.2;rw[hgh]at c6;rw[if_neg θ]at hn7;refine⟨hn7.1,hn7.2,?_⟩;rintro⟨y,hy,hy1,hy2⟩;have g2:=(inputs_iff.1 hp.2.2.2.2.2.2.2.2.2.2 y hy).2.2;rw[hy2,hn7.2]at g2;have:=g2 hsl;omega
def yab{n:Nte}(he:jr p n=0):qj (ji p n):=by
 have⟨hp,hn,hds,hsp,htu⟩:=el he;unfold ji;split
 ·rename_i c6;have⟨hip,hpp,hno⟩:=zcc hp hn hsp c6;have⟨h0,h0a,hih,hia⟩:=Rp p hp;have hsl:(n.src-1).toNat<p.has.length:=by
   have h1:=hn.1;have h2:=hp.2.2.1.2.1;omega
  have hgh:p.has.getD (n.src-1).toNat 0=p.has[(n.src-1).toNat]:=by rw[Fao,Fab hsl];rfl
  have⟨⟨hpl,hid,hd,ht0⟩,hs,hh,ha,hm1,hm2,hl1,hl2,hm,hr,hi⟩:=hp;have hhb:=hh.1 _ hsl;have hit:=hip.1;rw[hgh]at c6⊢;have hne:n.src≠n.dst:=hn.2.2.1;have hs1:=hn.1;have hio:(n.src-1).toNat≠(p.id-1).toNat:=θ;refine⟨⟨hpl,hid,hd,ht0⟩,hs,fj hh rfl rfl rfl ⟨θ,θ,θ⟩ (λh=>?_),⟨ha.1,ha.2.1,ha.2.2⟩,?_,hm2,hl1,hl2,hm,zg4 hr hip hno,inputs_iff.2 λx hx=>?_⟩
  ·rw[Fc2 hio];show p.has[(p.id-1).toNat]?=some p.said;rw[Fab hih,hh.2.2 hih]
  ·refine cq (by rw[Fak];exact h0) λx hx=>?_;show p.turn-1<=x;rcases mem_set hx with rfl|hx
   ·have:=C9 (Faa hsl);omega
   ·exact Feb hm1 (C9 hx)
  ·show p.turn<=x.t/\x.p<=p.players/\∀h:(x.p-1).toNat<(p.has.set (n.src-1).toNat (p.has[(n.src-1).toNat]+1)).length,x.t<=(p.has.set (n.src-1).toNat (p.has[(n.src-1).toNat]+1))[(x.p-1).toNat]
   rcases mem_insI.1 hx with rfl|hx
   ·refine⟨by have:=C9 (Faa hsl);omega,θ,λh=>?_⟩;simp only[hpp,Fcx];omega
   ·have⟨a1,a2,a3⟩:=inputs_iff.1 hi x hx;refine⟨a1,a2,λh=>?_⟩;rw[Fak]at h;have:=a3 h;rw[Fct];split
    ·rename_i e;have e2:p.has[(x.p-1).toNat]=p.has[(n.src-1).toNat]:=by congr 1;exact e.symm
     omega
    ·exact this
 ·exact hp
def yu8(hp:qj p){f:Nat}(hf:f<p.acked.length)(hfi:f≠(p.id-1).toNat)(x:Int):qj (xg p f x):=by
 have⟨h0,h0a,hih,hia⟩:=Rp p hp;unfold xg;split
 ·exact hp
 rename_i hc;have hga:p.acked.getD f 0=p.acked[f]:=by rw[Fao,Fab hf];rfl
 rw[hga]at hc;have⟨⟨hpl,hid,hd,ht0⟩,hs,hh,ha,hm1,hm2,hl1,hl2,⟨hm3,hm4⟩,hr,hi⟩:=hp;have hab:=ha.1 _ hf;have hl0:0<(p.acked.set f x).length:=by rw[Fak];exact h0a
 have m1:yy p.acked<=yy (p.acked.set f x):=cq hl0 λy hy=>by
  rcases mem_set hy with rfl|hy
  ·have:=C9 (Faa hf);omega
  ·exact C9 hy
 have m2:yy (p.acked.set f x)<=p.said:=by
  have:(p.acked.set f x)[(p.id-1).toNat]'(by rw[Fak];exact hia)=p.said:=by rw[List.getElem_set_ne hfi,ha.2.2 hia]
  rw[<-this];exact C9 (Faa _)
 have ed:p.mine.filter (nq λi=>decide (i.t<=yy (p.acked.set f x)))=p.mine.drop (yy (p.acked.set f x)+1-(p.said-p.mine.length+1)).toNat:=zid λj hj=>(hm4 j hj).2.2;refine⟨⟨hpl,hid,hd,ht0⟩,hs,⟨hh.1,hh.2.1,hh.2.2⟩,fj ha rfl rfl rfl ⟨θ,θ,θ⟩ (λh=>?_),hm1,?_,hl1,hl2,⟨?_,λj hj=>?_⟩,hr,hi⟩
 ·rw[Fc2 hfi];show p.acked[(p.id-1).toNat]?=some p.said;rw[Fab hia,ha.2.2 hia]
 ·refine zgi hl0 λy hy=>?_;show y<=p.said;rcases mem_set hy with rfl|hy
  ·omega
  ·have:=rg hy;omega
 ·show((p.mine.filter _).length:Int)=p.said-yy (p.acked.set f x);rw[ed,Fbk];omega
 ·show Bd (p.mine.filter _)[j]/\(p.mine.filter _)[j].p=p.id/\(p.mine.filter _)[j].t=p.said-((p.mine.filter _).length:Int)+1+j;have hj2:j<(p.mine.filter (nq λi=>decide (i.t<=yy (p.acked.set f x)))).length:=hj;simp only[ed]at hj2⊢;rw[Fbk]at hj2;rw[List.getElem_drop,Fbk];have:=hm4 ((yy (p.acked.set f x)+1-(p.said-p.mine.length+1)).toNat+j) θ;exact⟨this.1,this.2.1,by rw[this.2.2];omega⟩
def lw(n:Nte):(ji p n).id=p.id/\(ji p n).players=p.players/\(ji p n).turn=p.turn/\(ji p n).said=p.said/\(ji p n).acked=p.acked/\(ji p n).mine=p.mine/\(ji p n).hashes=p.hashes/\(ji p n).delay=p.delay/\(ji p n).split=p.split:=by unfold ji;split<;>exact⟨rfl,rfl,rfl,rfl,rfl,rfl,rfl,rfl,rfl⟩
def zz6{n:Nte}(he:jr p n=0):qj (qr p n):=by have⟨hp,hn,hds,hsp,htu⟩:=el he;have h1:=yab he;have⟨e1,e2,_,_,e5,_⟩:=lw (p:=p) n;have⟨h0,h0a,hih,hia⟩:=Rp p hp;have hs1:=hn.1;have hne:n.src≠n.dst:=hn.2.2.1;have hid:=hp.1.2.1;have hac:=hp.2.2.2.1.2.1;exact yu8 h1 (f:=(n.src-1).toNat) (by rw[e5];omega) (by rw[e1];omega) n.have_
end
structure Act30 where
 K:Int
 P:Int
 N:Int
 I:Int
 C:List Cmd
structure Pee where
 p:Per
 w:Wld
 h:List Int
structure Pty where
 X:List Pee
 m:List Nte
 log:List Frm
def One.core(o:One):Pee:=⟨o.p,o.w,o.h⟩
noncomputable def Pee.next(o:Pee):Wld:=Dj o.w (nextC o.p)
noncomputable def Pee.run(o:Pee):Pee:=⟨qk o.p (j1 o.next),o.next,o.h++[j1 o.next]⟩
open Classical in
noncomputable def Ax(k:Nat):Nat->Pty->Pty
 |0,σ=>σ
 |n+1,σ=>match σ.X[k]? with
  |none=>σ
  |some o=>if Cr o.p then Ax k n ⟨σ.X.set k o.run,σ.m,if k=0 then σ.log++[⟨o.p.turn,nextC o.p,j1 o.next⟩]else σ.log⟩else σ
noncomputable def Bp(k:Nat)(σ:Pty):Pty:=match σ.X[k]? with
 |none=>σ
 |some o=>Ax k 4 {σ with m:=σ.m++j4 o.p o.p.players.toNat}
noncomputable def Ab(σ:Pty)(n:Nte):Pty:=match σ.X[(n.dst-1).toNat]? with
 |none=>σ
 |some o=>if jr o.p n=0 then{σ with X:=σ.X.set (n.dst-1).toNat {o with p:=qr o.p n}}else σ
noncomputable def Cg(σ:Pty):Pty:=(List.range σ.X.length).foldl (fun σ k=>Bp k σ) σ
noncomputable def Iz(σ:Pty):Pty:=(Cg σ).m.foldl Ab {Cg σ with m:=[]}
noncomputable def H4:Nat->Pty->Pty
 |0,σ=>σ
 |n+1,σ=>H4 n (Iz σ)
def ofP(k:Int)(l:List Cmd):List Cmd:=l.map λc=>{c with P:=k}
noncomputable def Ie(k:Nat)(l:List Cmd)(σ:Pty):Pty:=match σ.X[k]? with
 |none=>σ
 |some o=>if jt o.p (ofP ((k:Int)+1) l)=0 then{σ with X:=σ.X.set k {o with p:=jj o.p (ofP ((k:Int)+1) l)}}else σ
noncomputable def Hr(K N:Int)(σ:Pty):Pty:=match σ.m[(N%σ.m.length).toNat]? with
 |none=>σ
 |some x=>if K=4 then{σ with m:=σ.m++[x]}else
  if K=3 then Ab {σ with m:=σ.m.eraseIdx (N%σ.m.length).toNat} x else{σ with m:=σ.m.eraseIdx (N%σ.m.length).toNat}
noncomputable def Cb(σ:Pty)(a:Act30):Pty:=
 if a.K=1 then(if 1<=a.P/\a.P<=σ.X.length then Ie (a.P-1).toNat a.C σ else σ)else
 if a.K=2 then(if 1<=a.P/\a.P<=σ.X.length then Bp (a.P-1).toNat σ else σ)else
 if a.K=3\/a.K=4\/a.K=5 then Hr a.K a.N σ else
 if a.K=6 then(if a.N<=60 then H4 a.N.toNat σ else σ)else σ
structure PtyOK(n d:Int)(B:Nat)(σ:Pty):Prop where
 n8:1<=n/\n<=8
 len:(σ.X.length:Int)=n
 peer:∀(i:Nat) (o:Pee),σ.X[i]?=some o->(o.p.id=(i:Int)+1/\o.p.players=n/\o.p.delay=d)/\qj o.p/\playW o.w/\o.p.turn=o.h.length/\o.h.length<=B
 note:∀x∈σ.m,Ck x/\x.src<=n/\x.dst<=n
 lm:σ.m.length<=B
 ll:σ.log.length<=B
 lc:∀x∈σ.log,x.C.length<=1000000/\∀c∈x.C,c.fits
def Si{α:Type}{l:List α}{k i:Nat}{a b:α}(h:(l.set k a)[i]?=some b):(i=k/\b=a)\/(i≠k/\l[i]?=some b):=by
 rw[Fds]at h;split at h
 ·rename_i e;split at h
  ·exact .inl ⟨e.symm,(Option.some.inj h).symm⟩
  ·cases h
 ·rename_i e;exact .inr ⟨λq=>e q.symm,h⟩
def br{p:Per}{x:Nte}:∀{n:Nat},x∈j4 p n->∃k,k<n/\((k+1:Nat):Int)≠p.id/\x=F6 p (k+1)
 |0,h=>nomatch h
 |n+1,h=>by
  rcases Faq.1 h with h|h
  ·have⟨k,h1,h2⟩:=br h;exact⟨k,θ,h2⟩
  ·split at h
   ·cases h
   ·rename_i e;exact⟨n,θ,e,Fbl.1 h⟩
def zfj(p:Per)(k:Nat):(F6 p k).inp=inp0\/(F6 p k).inp∈p.mine:=by
 show(p.mine.find? (Fo p k)).getD inp0=inp0\/(p.mine.find? (Fo p k)).getD inp0∈p.mine;cases h:p.mine.find? (Fo p k)with
 |none=>exact .inl rfl
 |some x=>exact .inr (Fc9 h)
section
variable {n d:Int} {B:Nat} {σ:Pty}
def PtyOK.up(h:PtyOK n d B σ){C:Nat}(hc:B<=C):PtyOK n d C σ:=
 ⟨h.n8,h.len,λi o ho=>by have⟨a,b,c,e,f⟩:=h.peer i o ho;exact⟨a,b,c,e,θ⟩,h.note,Fbx h.lm hc,Fbx h.ll hc,h.lc⟩
def PtyOK.setp(h:PtyOK n d B σ){k:Nat}{o:Pee}(ho:σ.X[k]?=some o){p:Per}(hp:qj p)(e:p.id=o.p.id/\p.players=o.p.players/\p.delay=o.p.delay/\p.turn=o.p.turn):PtyOK n d B {σ with X:=σ.X.set k {o with p:=p}}:=by
 refine⟨h.n8,by rw[Fak];exact h.len,λi x hx=>?_,h.note,h.lm,h.ll,h.lc⟩;rcases Si hx with⟨rfl,rfl⟩|⟨_,hx⟩
 ·have⟨⟨a1,a2,a3⟩,b,c,f,g⟩:=h.peer i o ho;exact⟨⟨e.1.trans a1,e.2.1.trans a2,e.2.2.1.trans a3⟩,hp,c,e.2.2.2.trans f,g⟩
 ·exact h.peer i x hx
def yic(h:PtyOK n d B σ)(k:Nat)(l:List Cmd):PtyOK n d B (Ie k l σ):=by
 unfold Ie;split
 ·exact h
 rename_i o ho;split
 ·rename_i he;exact h.setp ho (yfu he) ⟨rfl,rfl,rfl,rfl⟩
 ·exact h
def zz9(p:Per)(n:Nte):(qr p n).id=p.id/\(qr p n).players=p.players/\(qr p n).delay=p.delay/\(qr p n).turn=p.turn:=by unfold qr xg ji;dsimp only;split<;>split<;>exact⟨rfl,rfl,rfl,rfl⟩
def W7(h:PtyOK n d B σ)(x:Nte):PtyOK n d B (Ab σ x):=by
 unfold Ab;split
 ·exact h
 rename_i o ho;split
 ·rename_i he;exact h.setp ho (zz6 he) (zz9 o.p x)
 ·exact h
def W6(k:Nat):∀(c:Nat) {B:Nat} {σ:Pty},PtyOK n d B σ->PtyOK n d (B+c) (Ax k c σ)
 |0,B,σ,h=>h
 |c+1,B,σ,h=>by
  unfold Ax;split
  ·exact h.up θ
  rename_i o ho;split
  ·rename_i hc;rw[show B+(c+1)=B+1+c by omega];refine W6 k c ⟨h.n8,by rw[Fak];exact h.len,λi x hx=>?_,h.note,by have:=h.lm;dsimp only;omega,?_,λx hx=>?_⟩
   ·rcases Si hx with⟨rfl,rfl⟩|⟨_,hx⟩
    ·have⟨a,b,c,f,g⟩:=h.peer i o ho;refine⟨a,yhk b hc _,nu c _,?_,?_⟩
     ·show o.p.turn+1=((o.h++[_]).length:Nat)
      rw[Fac,Fan];omega
     ·show(o.h++[_]).length<=_;rw[Fac,Fan];omega
    ·have⟨a,b,c,f,g⟩:=h.peer i x hx;exact⟨a,b,c,f,θ⟩
   ·have:=h.ll;dsimp only;split
    ·rw[Fac,Fan];omega
    ·omega
   ·dsimp only at hx;split at hx
    ·rcases Faq.1 hx with hx|hx
     ·exact h.lc x hx
     ·rw[Fbl.1 hx];have⟨h1,h2⟩:=zex (h.peer k o ho).2.1;exact⟨ξ,h2⟩
    ·exact h.lc x hx
  ·exact h.up θ
def yjn{x:Nte}(h:Ck x):x.inp.fits/\small x.inp.C:=by
 have h7:=h.2.2.2.2.2.2;split at h7
 ·rw[Inp.fits,small,h7.2];exact⟨⟨Fae _,λc hc=>(nomatch hc)⟩,Fae _,λc hc=>(nomatch hc)⟩
 ·exact de h7.1
def o5{i:Nat}{o:Pee}(hp:(o.p.id=(i:Int)+1/\o.p.players=n/\o.p.delay=d)/\qj o.p){x:Nte}(hx:x∈j4 o.p o.p.players.toNat):Ck x/\x.src<=n/\x.dst<=n:=by
 obtain⟨k,h1,h2,rfl⟩:=br hx;have⟨⟨a1,a2,a3⟩,b⟩:=hp;have hpl:=b.1.1;have hid:=b.1.2.1;have htu:=b.1.2.2.2;have hhl:=b.2.2.1.2.1;have hhs:=b.2.2.2.2.2.2.2.1;have hk:k<o.p.has.length:=θ;have hh:=b.2.2.1.1 k hk;have e1:(F6 o.p (k+1)).src=o.p.id:=rfl;have e2:(F6 o.p (k+1)).dst=((k+1:Nat):Int):=rfl;have e3:(F6 o.p (k+1)).done=if o.p.hashes=[]then -1 else o.p.turn-1:=rfl
 have e4:(F6 o.p (k+1)).have_=o.p.has.getD k 0:=rfl;have e5:(F6 o.p (k+1)).hash=o.p.hashes.getLastD 0:=rfl;have hde:=b.1.2.2.1;refine⟨⟨?_,?_,?_,?_,?_,?_,?_⟩,θ,θ⟩
 ·rw[e1];unfold plrP;omega
 ·rw[e2];unfold plrP;omega
 ·rw[e1,e2];exact λe=>h2 e.symm
 ·rw[e3];unfold trnP;split<;>omega
 ·rw[e4,Fao,Fab hk];unfold trnP;show -1<=o.p.has[k]/\o.p.has[k]<=maxT;omega
 ·rw[e3,e5];by_cases e:o.p.hashes=[]
  ·rw[e];exact λh=>h.2 rfl
  ·have:=Fcu.2 e;rw[if_neg e];omega
 ·rcases zfj o.p (k+1)with e|e
  ·rw[e,if_pos (show inp0.t=-1 from rfl)];exact⟨rfl,rfl⟩
  ·have⟨j,hj,e⟩:=Faf e;have h3:=b.2.2.2.2.2.2.2.2.1.2 j hj;rw[<-e,if_neg (by have:=h3.1.1;omega)];exact⟨h3.1,h3.2.1⟩
def nk(h:PtyOK n d B σ)(k:Nat):PtyOK n d (B+12) (Bp k σ):=by
 unfold Bp;split
 ·exact h.up θ
 rename_i o ho;have⟨a,b,c,e,f⟩:=h.peer k o ho;have hl:=Ru o.p o.p.players.toNat;refine W6 k 4 (B:=B+8) ⟨h.n8,h.len,(h.up (C:=B+8) θ).peer,λx hx=>?_,?_,by have:=h.ll;dsimp only;omega,h.lc⟩
 ·rcases Faq.1 hx with hx|hx
  ·exact h.note x hx
  ·exact o5 ⟨a,b⟩ hx
 ·have h1:=h.lm;have h2:=h.n8;dsimp only;rw[Fac];omega
def Rm(h:PtyOK n d B σ):∀c,PtyOK n d (B+12*c) ((List.range c).foldl (fun σ k=>Bp k σ) σ)
 |0=>h
 |c+1=>by rw[Fcw,Fce];exact nk (Rm h c) c
def Rn(h:PtyOK n d B σ):PtyOK n d (B+96) (Cg σ):=(Rm h σ.X.length).up (by have:=h.len;have:=h.n8;omega)
def nl:∀(l:List Nte) {σ:Pty},PtyOK n d B σ->PtyOK n d B (l.foldl Ab σ)
 |[],_,h=>h
 |x::l,_,h=>nl l (W7 h x)
def PtyOK.m0(h:PtyOK n d B σ):PtyOK n d B {σ with m:=[]}:=⟨h.n8,h.len,h.peer,λx hx=>(nomatch hx),Fae _,h.ll,h.lc⟩
def W8(h:PtyOK n d B σ):PtyOK n d (B+96) (Iz σ):=nl _ (Rn h).m0
def zeq:∀(c:Nat) {B:Nat} {σ:Pty},PtyOK n d B σ->PtyOK n d (B+96*c) (H4 c σ)
 |0,B,σ,h=>h
 |c+1,B,σ,h=>by have:=zeq c (W8 h);rw[show B+96*(c+1)=B+96+96*c by omega];exact this
def yid(h:PtyOK n d B σ)(K N:Int):PtyOK n d (B+1) (Hr K N σ):=by
 have he:∀j,PtyOK n d (B+1) {σ with m:=σ.m.eraseIdx j}:=λj=>(h.up (C:=B+1) θ) |> λg=>⟨g.n8,g.len,g.peer,λx hx=>h.note x (Fc0 hx),by have:=Few σ.m j;have:=g.lm;dsimp only;omega,g.ll,g.lc⟩
 unfold Hr;split
 ·exact h.up θ
 rename_i x hx;split
 ·refine⟨h.n8,h.len,(h.up (C:=B+1) θ).peer,λy hy=>?_,?_,by have:=h.ll;dsimp only;omega,h.lc⟩
  ·rcases Faq.1 hy with hy|hy
   ·exact h.note y hy
   ·rw[Fbl.1 hy];exact h.note x (Fa4 hx)
  ·have:=h.lm;dsimp only;rw[Fac,Fan];omega
 ·split
  ·exact W7 (he _) x
  ·exact he _
def nn(h:PtyOK n d B σ)(a:Act30):PtyOK n d (B+5760) (Cb σ a):=by
 unfold Cb;split
 ·split
  ·exact(yic h _ _).up θ
  ·exact h.up θ
 split
 ·split
  ·exact(nk h _).up θ
  ·exact h.up θ
 split
 ·exact(yid h _ _).up θ
 split
 ·split
  ·exact(zeq _ h).up θ
  ·exact h.up θ
 ·exact h.up θ
end
def yr1(l:List Cmd)(hl:small l):Jb 101 [lst 10 zz l] Store.empty λr N=>(l=[]/\r=lst 10 zz []/\N=Store.empty)∨
  ∃b cap L,r=.s (.slice (some ⟨b,0,none⟩) l.length cap)/\N=Store.empty.sO b (.cells ((rws zz l).flatten++L))/\l.length<=cap/\l≠[]:=by
 have hlen:=hl.1;refine Qy 18 Tryz.func101 ?_;refine AWp.loop (σ:=Nat×AV) ⟨λx=>[(2,.av x.2),(5,.av (lst 10 zz l)),(6,.av (int (l.length:Nat))),(7,.av (int (x.1:Nat)))],λ_=>[],λx st'=>x.1<=l.length/\RowsO 10 zz st' x.2 (l.take x.1),λx=>l.length-x.1⟩ zb ?_ ?_
 ·refine⟨(0,_),Tv,⟨Fae _,.inl ⟨rfl,rfl⟩⟩,⟨Tq,Tq,?_,Tq,Tv⟩,Tv⟩;rw[<-zi (f:=zz) l];exact Tq
 rintro⟨i,v⟩ st' ⟨hi,ha⟩;dsimp only at hi ha⊢;refine bcd (λc1=>?_) (λc1=>?_);rotate_left
 ·have:i=l.length:=θ;subst this;rw[Faj]at ha;rcases ha with⟨rfl,rfl⟩|⟨b,cap,L,rfl,ho,h1,h2,h3⟩
  ·exact⟨_,Store.empty,AV.le_nil 10,hasE _,.inl ⟨rfl,rfl,rfl⟩⟩
  ·by_cases hne:l=[]
   ·subst hne;exact⟨lst 10 zz [],Store.empty,λw T x hx=>by cases hx;exact VRel.lst [] none b 0 cap 10 (λ_=>undef) (Fae _) (λi row h=>ω) (λ_ h=>ω) (λi row j x h=>ω) (λi row j x h=>ω) (λi row j x h=>ω),hasE _,.inl ⟨rfl,rfl,rfl⟩⟩
   ·refine⟨_,Store.empty.sO b (.cells ((rws zz l).flatten++L)),Tt,⟨λb' x hx=>?_,λb' y hy=>?_⟩,.inr ⟨b,cap,L,rfl,rfl,h1,hne⟩⟩
    ·by_cases e:b'=b
     ·subst e;rw[zd]at hx;rw[ho];exact hx
     ·rw[zf e]at hx;cases hx
    ·cases hy
 have hlt:i<l.length:=θ;refine⟨i,rfl,za _ (zp hlt) (zi4 l[i] (by have:=hl.2 _ (Faa hlt);omega) _ _ ⟨ψ,Dt (ie:=ti136) rfl (λ_=>rfl) ψ ha.q l[i] rfl θq (λb cap L h5 h6 h7 h8=>Qd ⟨(i+1,_),ϑ,⟨hlt,?_⟩,⟨Tq,Tq,Tq,Tq,Tv⟩,Tv⟩)⟩)⟩;dsimp only;rw[Fad hlt];exact .inr ⟨b,cap,L,rfl,zd _ _ _,h6,h7,h8⟩
def ysj(x:Cmd):∀y∈zz x,y.one=true:=by intro y hy;simp only[zz,Faw,Fbs,or_false]at hy;rcases hy with rfl|rfl|rfl|rfl|rfl|rfl|rfl|rfl|rfl|rfl<;>rfl
def F8(k:Int)(l:List Cmd)(j:Nat):List Cmd:=ofP k (l.take j)++l.drop j
theorem yke(k:Int)(l:List Cmd)(j:Nat):(F8 k l j).length=l.length:=by unfold F8 ofP;rw[Fac,Fal,<-Fac,Fbu]
theorem ykf(k:Int)(l:List Cmd):F8 k l l.length=ofP k l:=by unfold F8;rw[Faj,Fdy,Fbi]
def ykd{k:Int}{l:List Cmd}{j:Nat}(h:j<l.length):F8 k l (j+1)=(F8 k l j).set j {l[j]with P:=k}/\(F8 k l j)[j]?=some l[j]:=by
 have h1:(ofP k (l.take j)).length=j:=by unfold ofP;rw[Fal,Fai];omega
 unfold F8;rw[Fcl h];constructor
 ·rw[Fad h,List.set_append_right _ _ θ,h1,Fc3,List.set_cons_zero];unfold ofP;rw[Fav,Fas];rfl
 ·rw[Fa7 θ,h1,Fc3];rfl
def zdr{q:Prop}(h:q:=by
 have h0:=Ci hg;have hq0:=Hh hg hi;refine Qbc ?_;refine⟨i,rfl,za _ (wx _ hi) ?_⟩;refine za (o:=S2.obj X[i].q) _ hq0 ?_;refine yif X[i].p (ofP ((i:Int)+1) l) hf hs (by unfold ofP;rw[Fal];omega) ?_ ?_ _ _ (λhbad=>?_) (λhok=>?_)
 ·intro c hc;obtain⟨x,hx,rfl⟩:=Fag.1 hc;exact Fbx (hls.2 x hx) ψ
 ·refine⟨by unfold ofP;rw[Fal];exact hll,λc hc=>?_⟩;obtain⟨x,hx,rfl⟩:=Fag.1 hc;exact hls.2 x hx
 ·refine zu (λc=>absurd c hbad) (λc=>?_);exact ret (hR X[i] S2 (if_neg hbad).symm (by rw[Fdn];exact hg))
 ·refine Qc zb yby ?_;refine Qbc ?_;refine⟨i,rfl,za _ (wx _ hi) ?_⟩;have h6:=((hg.at 9 rfl).at (P:=ja X[i].q (zo X[i].p++[ptr X[i].eb])) i (wx _ hi)).store (zo (jj X[i].p (ofP ((i:Int)+1) l))++[ptr X[i].eb]);refine⟨?_,Tv⟩;refine za _ rfl (xf rfl (q9 (v:=.agg (zo (jj X[i].p (ofP ((i:Int)+1) l)))) rfl rfl rfl rfl ?_));refine k8 (i:=ti63) (v:=.agg (zo (jj X[i].p (ofP ((i:Int)+1) l)))) (xs:=zo (jj X[i].p (ofP ((i:Int)+1) l))) (b:=X[i].q) (o:=0) (l:=zo X[i].p++[ptr X[i].eb]) rfl rfl rfl hq0 (show 0+11<=12 by decide) ?_;rw[show zq (zo X[i].p++[ptr X[i].eb]) 0 (zo (jj X[i].p (ofP ((i:Int)+1) l)))=zo (jj X[i].p (ofP ((i:Int)+1) l))++[ptr X[i].eb]from rfl];generalize S2.sO X[i].q _=S3 at h6⊢;refine⟨Tv,?_⟩;refine ret (hR {X[i]with p:=jj X[i].p (ofP ((i:Int)+1) l)} S3 (by rw[if_pos hok]) (W5 hi _ rfl h6))):q:=h
section
variable {room:Int} {s hb:Nat} {X:List One} {vp vm vT vW vS vl:AV} {m:List Nte} {log:List Frm} {T:List Int} {W:List Wld} {D:List Bool} {S:Store}
def yfs(h:Sp (xi room s hb X vp vm vT vW vS vl m log T W D) S){i:Nat}(hi:i<X.length)(hX:X.length<=8)(l:List Cmd)(hls:small l)(hf:X[i].p.fits)(hs:Ag X[i].p)(R:Ja)
  (hR:∀o S2,o=(if jt X[i].p (ofP ((i:Int)+1) l)=0 then{X[i]with p:=jj X[i].p (ofP ((i:Int)+1) l)}else X[i])->Sp (xi room s hb (X.set i o) vp vm vT vW vS vl m log T W D) S2->R (.tup []) S2):Jb 66 [ptr s,int i,lst 10 zz l] S R:=by
 obtain⟨t,rfl⟩:=Lv h (λe=>ψz);have hll:=hls.1;refine Qb (c:=cfg 50) zb Tryz.func66 ?_;refine AWp.seq (AWp.of_vc zb ?_);refine Rj (yr1 l hls) _ _ ?_;rintro v N (⟨hl0,rfl,rfl⟩|⟨b,cap,L,rfl,rfl,hc,hne⟩) hd
 ·rw[unE];rw[show lst 10 zz []=lst 10 zz (ofP ((i:Int)+1) l) by rw[hl0];rfl];refine AWp.seq (AWp.of_vc zb ?_);refine AWp.loop (σ:=Unit) ⟨λj=>[(0,.av (ptr s)),(1,.av (int (i:Nat))),(2,.av (lst 10 zz (ofP ((i:Int)+1) l))),(12,.av (int 0)),(13,.av (int 0))],λ_=>[],λ_ S'=>S'=S,λ_=>0⟩ zb ?_ ?_
  ·refine⟨(),Tv,rfl,⟨Tq,Tq,Tq,?_,Tq,Tv⟩,Tv⟩;rw[hl0];exact Tq
  rintro _ S2 rfl;have hg:=h;refine AWp.of_vc zb ?_;exact zdr
 ·have h1:=Sp.more (P:=ja b ((rws zz l).flatten++L)) rfl h hd;generalize Store.un _ S=S1 at h1⊢;refine AWp.seq (AWp.of_vc zb ?_)
  refine AWp.loop (σ:=Nat) ⟨λj=>[(0,.av (ptr s)),(1,.av (int (i:Nat))),(2,.av (.s (.slice (some ⟨b,0,none⟩) l.length cap))),(12,.av (int (l.length:Nat))),(13,.av (int (j:Nat)))],λ_=>[],
   λj S'=>j<=l.length/\Sp (ja b ((rws zz (F8 ((i:Int)+1) l j)).flatten++L)::xi room s hb X (.lst 1 (X.map λo=>[ptr o.q]) (some t)) vm vT vW vS vl m log T W D) S',λj=>l.length-j⟩ zb ?_ ?_
  ·exact⟨0,Tv,⟨Fae _,h1⟩,Qax,Tv⟩
  clear h1;rintro j S' ⟨hj,h1⟩;refine bcd (λc1=>?_) (λc1=>?_)
  ·have hlt:j<l.length:=θ;have⟨e1,e2⟩:=ykd (k:=(i:Int)+1) hlt;have hml:j<(F8 ((i:Int)+1) l j).length:=by rw[yke];exact hlt
   refine Qd ⟨j,rfl,hlt,?_⟩;refine ye (i:=ti2) (v:=int ((i:Int)+1)) (b:=b) (o:=0+j*10+0) (st2:=S'.sO b (.cells ((rws zz (F8 ((i:Int)+1) l (j+1))).flatten++L))) rfl rfl rfl (h1.at 0 rfl).obj (by rw[Fac,qc (k:=10) (λ_=>rfl)];omega) (by rw[Fa9,e1];refine congrArg _ (congrArg _ (l9 (f:=zz) (k:=10) (λ_=>rfl) hml (show 0+1<=10 by decide) ?_));rw[Fab hml]at e2;rw[Option.some.inj e2];rfl) ?_;have h2:=(h1.at 0 rfl).store ((rws zz (F8 ((i:Int)+1) l (j+1))).flatten++L);exact Qd ⟨j+1,ϑ,⟨hlt,h2⟩,Qax,Tv⟩
  ·have:j=l.length:=θ;subst this;rw[ykf]at h1;have⟨ho,ht,hg⟩:=yrw h1;refine AWp.freezeL (d:=2) (b:=b) (k:=10) (n:=l.length) (cap:=cap) (rows:=rws zz (ofP ((i:Int)+1) l)) (pad:=L) rfl ho ht (by rw[zi,ofP,Fal]) hc (λrow hr=>by
    obtain⟨x,_,rfl⟩:=Fag.1 hr;rfl) (λrow hr y hy=>by
    obtain⟨x,_,rfl⟩:=Fag.1 hr;exact ysj x y hy) ?_
   generalize S'.dO b=S2 at hg⊢;refine AWp.of_vc zb ?_;exact zdr
end
def Fj{q:Prop}(h:q:=by repeat(first|exact Tv|refine⟨rfl,?_⟩|refine⟨za (o:=Store.obj _ s) _ h0 rfl,?_⟩|refine⟨za (o:=Store.obj _ X[i].q) _ hq0 rfl,?_⟩|refine⟨ze θ rfl,?_⟩|refine⟨⟨i,hdi,za _ (wx _ hi) rfl⟩,?_⟩)):q:=h
def zji{q:Prop}(h:q:=by exact zu (λc=>absurd c hbad) (λc=>ret (hR X[i] S (if_neg hbad).symm (by rw[Fdn];exact h)))):q:=h
def zjg{q:Prop}(h:q:=by refine Qc zb yfk ?_;refine Qbc ?_;refine Qd ?_;refine⟨i,hdi,za _ (wx _ hi) ?_⟩;have h6:=((h.at 9 rfl).at (P:=ja X[i].q (zo X[i].p++[ptr X[i].eb])) i (wx _ hi)).store (zo (qr X[i].p n)++[ptr X[i].eb]);refine⟨?_,Tv⟩;refine za _ rfl (xf rfl (q9 (v:=.agg (zo (qr X[i].p n))) rfl rfl rfl rfl ?_));refine k8 (i:=ti63) (v:=.agg (zo (qr X[i].p n))) (xs:=zo (qr X[i].p n)) (b:=X[i].q) (o:=0) (l:=zo X[i].p++[ptr X[i].eb]) rfl rfl rfl hq0 (show 0+11<=12 by decide) ?_;rw[show zq (zo X[i].p++[ptr X[i].eb]) 0 (zo (qr X[i].p n))=zo (qr X[i].p n)++[ptr X[i].eb]from rfl];generalize S.sO X[i].q _=S3 at h6⊢;refine⟨Tv,?_⟩;exact ret (hR {X[i]with p:=qr X[i].p n} S3 (by rw[if_pos hok]) (W5 hi _ rfl h6))):q:=h
section
variable {room:Int} {s hb:Nat} {X:List One} {vp vm vT vW vS vl:AV} {m:List Nte} {log:List Frm} {T:List Int} {W:List Wld} {D:List Bool} {S:Store}
def ysc(h:Sp (xi room s hb X vp vm vT vW vS vl m log T W D) S)(n:Nte){i:Nat}(hd:n.dst=(i:Int)+1)(hi:i<X.length)(hX:X.length<=8)(hf:X[i].p.fits)(hs:Ag X[i].p)(hnf:n.inp.fits)(hnx:small n.inp.C)(R:Ja)
  (hR:∀o S2,o=(if jr X[i].p n=0 then{X[i]with p:=qr X[i].p n}else X[i])->Sp (xi room s hb (X.set i o) vp vm vT vW vS vl m log T W D) S2->R (.tup []) S2):Jb 106 [ptr s,.agg (yg n)] S R:=by
 obtain⟨t,rfl⟩:=Lv h (λe=>ψz);have h0:=Ci h;have hq0:=Hh h hi;have hdi:n.dst-1=(i:Nat):=θ;refine Qy 37 Tryz.func106 ?_;refine Qc zb yfl ?_;refine Qbc ?_;refine Qd ?_;refine⟨i,hdi,za _ (wx _ hi) ?_⟩;refine za (o:=S.obj X[i].q) _ hq0 ?_;refine⟨zer X[i].p n hf hs hnf hnx _ _ (λhbad=>⟨Tv,⟨Fj,?_⟩,Tv⟩) (λhok=>⟨Tv,⟨Fj,?_⟩,Tv⟩),⟨Fj,?_⟩,Tv⟩
 ·exact⟨⟨Fj,⟨⟨Fj,zji⟩,Tv⟩⟩,Tv⟩
 ·refine⟨⟨Fj,⟨⟨Fj,?_⟩,Tv⟩⟩,Tv⟩;exact zjg
 ·refine⟨zer X[i].p n hf hs hnf hnx _ _ (λhbad=>⟨Fj,⟨⟨Fj,⟨⟨Fj,zji⟩,Tv⟩⟩,Tv⟩⟩) (λhok=>⟨Fj,⟨⟨Fj,⟨⟨Fj,?_⟩,Tv⟩⟩,Tv⟩⟩),Tv⟩;exact zjg
end
def Vj:List AV:=[int 0,int 0,int 0,int 0,.s (.slice none 0 0),int 0,u64 0,int 0]
theorem D9(x:Nte):(yg x).length=8:=rfl
def yjj(x:Nte):∀y∈yg x,y.one=true:=by intro y hy;simp only[yg,Faw,Fbs,or_false]at hy;rcases hy with rfl|rfl|rfl|rfl|rfl|rfl|rfl|rfl<;>rfl
def yf3(l:List Nte):∀y∈(rws yg l).flatten,y.one=true:=by intro y hy;have⟨r,hr,hy⟩:=Fdw.1 hy;obtain⟨b,_,rfl⟩:=Fag.1 hr;exact yjj b y hy
def yrc{N:Store}{v:AV}{l:List Nte}(hv:RowsQ 8 yg N v l)(hl:l.length<=1000000){i:Nat}(hi:i<l.length)(R:Ja)(h:∀v' N',RowsQ 8 yg N' v' (l.eraseIdx i)->R v' N'):Jb 105 [v,int (i:Nat),int ((i:Int)+1)] N R:=by
 rcases hv with(⟨_,hl0⟩|⟨b,cap,L,rfl,ho,hc1,hc2,hc3⟩)|⟨_,_,_,hl0⟩
 ·subst hl0;exact absurd hi (Fa3 _)
 rotate_left
 ·subst hl0;exact absurd hi (Fa3 _)
 refine Qy 33 Tryz.func105 ?_;refine zaq (i:=i) (j:=i+1) (m:=l.length) rfl rfl rfl rfl θ θ hc1 θ ?_;refine zu (λhh=>absurd hh θ) (λ_=>?_);refine Qc zb yfm ?_;refine⟨0,i,rfl,rfl,Fae _,θ,.inl ⟨θ,?_⟩⟩;by_cases hc:i+1<cap
 ·refine⟨i+1,l.length,rfl,rfl,θ,hc1,.inl ⟨hc,⟨⟨.inr ⟨_,_,rfl,rfl,Vb (ie:=ti183) (n:=i) (m:=l.length-(i+1)) (xs:=(rws yg (l.drop (i+1))).flatten) rfl ho (by rw[Fac,qc D9];exact hc2) θ (by have:=SrcOK.obj (P:=Tryz.prog) (k:=8) (m:=l.length-(i+1)) (o:=0+(i+1)*8) (cp:=cap-(i+1)) ho (by rw[Fac,qc D9];omega) (by rw[Fa9,fe D9 θ];exact yf3 _);rw[Fa9,fe D9 θ]at this;rw[Fa9];exact this) ⟨by show(i+(l.length-(i+1)))*80<=_;omega,θ⟩ (λ_=>⟨Tv,?_⟩) (λhh=>θ)⟩⟩,Tv⟩⟩⟩;rw[show zq ((rws yg l).flatten++L) (i*ti183.size) (rws yg (l.drop (i+1))).flatten=(rws yg (l.eraseIdx i)).flatten++(yg l[l.length-1]++L)from eo D9 hi L];have hel:=ep hi;have ho2:(N.sO b (.cells ((rws yg (l.eraseIdx i)).flatten++(yg l[l.length-1]++L)))).obj b=some (.cells ((rws yg (l.eraseIdx i)).flatten++(yg l[l.length-1]++L))):=zd _ _ _;generalize N.sO b _=N2 at ho2⊢;refine Qbb ⟨i+(l.length-(i+1)),l.length,rfl,rfl,θ,hc1,.inl ⟨θ,gp (ie:=ti183) (b:=b) (off:=0+(i+(l.length-(i+1)))*ti183.size) (l:=(rws yg (l.eraseIdx i)).flatten++(yg l[l.length-1]++L)) rfl rfl rfl rfl rfl rfl rfl θ ho2 (by rw[Fac,qc D9,hel,Fac,D9];show 0+(i+(l.length-(i+1)))*8+8<=_;omega) ψ ?_⟩⟩;have e3:zq ((rws yg (l.eraseIdx i)).flatten++(yg l[l.length-1]++L)) (0+(i+(l.length-(i+1)))*ti183.size) (ti183.zero.map AV.s)=(rws yg (l.eraseIdx i)).flatten++(Vj++L):=by
   have h1:(rws yg (l.eraseIdx i)).flatten.length=0+(i+(l.length-(i+1)))*ti183.size:=by rw[qc D9,hel];show _=0+(i+(l.length-(i+1)))*8;omega
   rw[wu h1,Fas];rfl
  rw[e3];have e4:i+(l.length-(i+1))=(l.eraseIdx i).length:=θ;refine ret (h _ _ (.inl (.inr ⟨b,cap,Vj++L,by rw[<-e4];rfl,zd _ _ _,θ,by rw[Fac];show cap*8<=_*8+(8+L.length);omega,hc3⟩)))
 ·refine⟨i+1,l.length,rfl,rfl,θ,hc1,.inr ⟨θ,?_⟩⟩;have e1:l.drop (i+1)=[]:=Fc5 θ;have hsp:=eo D9 hi L;rw[e1]at hsp;have hsp:zq ((rws yg l).flatten++L) (i*8) []=(rws yg (l.eraseIdx i)).flatten++(yg l[l.length-1]++L):=hsp;have hsrc:SrcOK Tryz.prog N 8 0 (.s (.slice (some ⟨b,0,none⟩) 0 0)) []:=by
   have:=SrcOK.obj (P:=Tryz.prog) (k:=8) (m:=0) (o:=0) (cp:=0) ho θ (λy hy=>by simp at hy);simpa using this
  refine⟨⟨.inr ⟨_,_,rfl,rfl,Vb (ie:=ti183) (n:=i) (m:=0) (xs:=[]) rfl ho (by rw[Fac,qc D9];exact hc2) θ hsrc ⟨by show(i+(0))*80<=_;omega,θ⟩ (λ_=>⟨Tv,?_⟩) (λhh=>θ)⟩⟩,Tv⟩;rw[show zq ((rws yg l).flatten++L) (i*ti183.size) []=(rws yg (l.eraseIdx i)).flatten++(yg l[l.length-1]++L)from hsp];have hel:=ep hi;have ho2:(N.sO b (.cells ((rws yg (l.eraseIdx i)).flatten++(yg l[l.length-1]++L)))).obj b=some (.cells ((rws yg (l.eraseIdx i)).flatten++(yg l[l.length-1]++L))):=zd _ _ _;generalize N.sO b _=N2 at ho2⊢;refine Qbb ⟨i+(0),l.length,rfl,rfl,θ,hc1,.inl ⟨θ,gp (ie:=ti183) (b:=b) (off:=0+(i+(0))*ti183.size) (l:=(rws yg (l.eraseIdx i)).flatten++(yg l[l.length-1]++L)) rfl rfl rfl rfl rfl rfl rfl θ ho2 (by rw[Fac,qc D9,hel,Fac,D9];show 0+(i+(0))*8+8<=_;omega) ψ ?_⟩⟩;have e3:zq ((rws yg (l.eraseIdx i)).flatten++(yg l[l.length-1]++L)) (0+(i+(0))*ti183.size) (ti183.zero.map AV.s)=(rws yg (l.eraseIdx i)).flatten++(Vj++L):=by
   have h1:(rws yg (l.eraseIdx i)).flatten.length=0+(i+(0))*ti183.size:=by rw[qc D9,hel];show _=0+(i+(0))*8;omega
   rw[wu h1,Fas];rfl
  rw[e3];have e4:i+(0)=(l.eraseIdx i).length:=θ;refine ret (h _ _ (.inl (.inr ⟨b,cap,Vj++L,by rw[<-e4];rfl,zd _ _ _,θ,by rw[Fac];show cap*8<=_*8+(8+L.length);omega,hc3⟩)))
def PtyX(room:Int)(s hb K:Nat)(σ:Pty)(S:Store):Prop:=∃X vp vm vl,X.map One.core=σ.X/\(∀o∈X,o.k<=K)/\Sp (xi room s hb X vp vm nil nil nil vl σ.m σ.log [] [] []) S
def wl(a:Act30):List AV:=[int a.K,int a.P,int a.N,int a.I,lst 10 zz a.C]
def ykb{N:Int}{n:Nat}(h:0<n):-(n:Int)<N.tmod n/\N.tmod n<n/\(N.tmod n+n).tmod n=N%n:=by
 have h1:=Int.tmod_lt_of_pos N (show(0:Int)<n by omega);have h2:-(n:Int)<N.tmod n:=by have:=Int.tmod_lt_of_pos (-N) (show(0:Int)<n by omega);rw[Int.neg_tmod]at this;omega
 refine⟨h2,h1,?_⟩;rw[Fdt θ,Int.add_emod_right];have:=Int.tmod_add_mul_tdiv N n
 conv=>rhs;rw[<-this,Int.add_mul_emod_self_left]
section
variable {room:Int} {s hb K:Nat} {σ:Pty} {S:Store} {n d:Int} {B:Nat}
theorem H1{X:List One}{σ:Pty}(h:X.map One.core=σ.X){i:Nat}(hi:i<X.length):σ.X[i]?=some X[i].core:=by rw[<-h,Far,Fab hi];rfl
theorem ud{X:List One}{σ:Pty}(h:X.map One.core=σ.X){i:Nat}{o:One}:(X.set i o).map One.core=σ.X.set i o.core:=by rw[Fc6,h]
def po{X:List One}{i:Nat}{o x:One}(h:x∈X.set i o):x=o\/x∈X:=(Fep h).symm
def PtyOK.of{X:List One}(hok:PtyOK n d B σ)(h:X.map One.core=σ.X)(hB:B<=900000){i:Nat}(hi:i<X.length):X[i].p.fits/\Ag X[i].p:=by have⟨_,hp,_,ht,hl⟩:=hok.peer i _ (H1 h hi);have ht:X[i].p.turn=(X[i].h.length:Nat):=ht;have hl:X[i].h.length<=B:=hl;exact yio hp (show X[i].p.turn<=900000 by omega)
def PtyOK.lenX{X:List One}(hok:PtyOK n d B σ)(h:X.map One.core=σ.X):(X.length:Int)=n:=by rw[<-hok.len,<-h,Fal]
def PtyOK.erase(h:PtyOK n d B σ)(j:Nat):PtyOK n d B {σ with m:=σ.m.eraseIdx j}:=
 ⟨h.n8,h.len,h.peer,λx hx=>h.note x (Fc0 hx),by have:=Few σ.m j;have:=h.lm;dsimp only;omega,h.ll,h.lc⟩
def yfw(h:PtyX room s hb K σ S)(hok:PtyOK n d B σ)(hB:B<=900000){i:Nat}(hi:(i:Int)<n)(l:List Cmd)(hls:small l)(R:Ja)(hR:∀S',PtyX room s hb K (Ie i l σ) S'->R (.tup []) S'):Jb 66 [ptr s,int i,lst 10 zz l] S R:=by
 have⟨X,vp,vm,vl,hX,hk,hS⟩:=h;have hl:=hok.lenX hX;have hn:=hok.n8;have hi2:i<X.length:=θ;have⟨f1,f2⟩:=hok.of hX hB hi2;refine yfs hS hi2 θ l hls f1 f2 R λo S2 ho h2=>hR S2 ?_;unfold Ie;rw[H1 hX hi2];dsimp only;split
 ·rename_i c;rw[if_pos (by exact c)]at ho;exact⟨_,_,_,_,by rw[ud hX,ho];rfl,λx hx=>by
   rcases po hx with rfl|hx
   ·have:=hk _ (Faa hi2);rw[ho];exact this
   ·exact hk x hx,h2⟩
 ·rename_i c;rw[if_neg (by exact c)]at ho;rw[ho,Fdn]at h2;exact⟨_,_,_,_,hX,hk,h2⟩
def zjf(h:PtyX room s hb K σ S)(hok:PtyOK n d B σ)(hB:B<=900000){x:Nte}(hx:Ck x/\x.src<=n/\x.dst<=n)(R:Ja)(hR:∀S',PtyX room s hb K (Ab σ x) S'->R (.tup []) S'):Jb 106 [ptr s,.agg (yg x)] S R:=by
 have⟨X,vp,vm,vl,hX,hk,hS⟩:=h;have hl:=hok.lenX hX;have hn:=hok.n8;have hds:=hx.1.2.1;have hi2:(x.dst-1).toNat<X.length:=by unfold plrP at hds;omega
 have⟨f1,f2⟩:=hok.of hX hB hi2;have⟨g1,g2⟩:=yjn hx.1;refine ysc hS x (by unfold plrP at hds;omega) hi2 θ f1 f2 g1 g2 R λo S2 ho h2=>hR S2 ?_;unfold Ab;rw[H1 hX hi2];dsimp only;split
 ·rename_i c;rw[if_pos (by exact c)]at ho;exact⟨_,_,_,_,by rw[ud hX,ho];rfl,λx hx=>by
   rcases po hx with rfl|hx
   ·have:=hk _ (Faa hi2);rw[ho];exact this
   ·exact hk x hx,h2⟩
 ·rename_i c;rw[if_neg (by exact c)]at ho;rw[ho,Fdn]at h2;exact⟨_,_,_,_,hX,hk,h2⟩
def ylo(h:PtyX room s hb K σ S)(hok:PtyOK n d B σ)(hB:B<=900000)(a:Act30)(R:Ja)(hR:∀S',PtyX room s hb K (Hr a.K a.N σ) S'->R (.tup []) S'):Jb 68 [ptr s,.agg (wl a)] S R:=by
 have⟨X,vp,vm,vl,hX,hk,hS⟩:=h;have h0:=Ci hS;obtain⟨oa,cap,rfl,hr⟩:=RowsQ.form (k:=8) (f:=yg) (l:=σ.m) (Lp (k:=8) (f:=yg) (l:=σ.m) (v:=vm) (hS.at 0 rfl));refine Qy 59 Tryz.func68 ?_;refine Qbc (zu (λc1=>?_) (λc1=>?_))
 ·have e:Hr a.K a.N σ=σ:=by
   unfold Hr;rw[Fbe θ]
  rw[e]at hR;exact ret (hR S ⟨X,_,_,_,hX,hk,hS⟩)
 have hlm:=hok.lm;have hpos:0<σ.m.length:=θ;have⟨m1,m2,m3⟩:=ykb (N:=a.N) hpos;have hkb:=Fd3 a.N (show(σ.m.length:Int)≠0 by omega);have hkl:=Fdl a.N (show(0:Int)<(σ.m.length:Int) by omega);obtain⟨k,hke⟩:∃k:Nat,a.N%(σ.m.length:Int)=k:=⟨(a.N%(σ.m.length:Int)).toNat,θ⟩
 have hkm:k<σ.m.length:=θ;rw[hke]at m3;refine⟨c1,ze θ ⟨c1,?_⟩⟩;rw[m3];refine Qbc ?_;obtain⟨b,L,rfl,ho⟩:=hr k hkm;refine⟨k,rfl,hkm,Qbc (xr (i:=ti183) (row:=yg σ.m[k]) rfl rfl (D3 (f:=yg) (k:=8) (λ_=>rfl) hkm) ?_)⟩;have hmx:=hok.note σ.m[k] (Faa hkm)
 have e:Hr a.K a.N σ=if a.K=4 then{σ with m:=σ.m++[σ.m[k]]}else
   if a.K=3 then Ab {σ with m:=σ.m.eraseIdx k} σ.m[k]else{σ with m:=σ.m.eraseIdx k}:=by
  unfold Hr;rw[hke,Fbc,Fab hkm]
 rw[e]at hR;refine zu (λc2=>?_) (λc2=>?_)
 ·rw[if_pos c2]at hR;refine Qc zb ybx (Qbc ?_);refine⟨ψ,⟨Dt (ie:=ti183) rfl (λ_=>rfl) ψ (Lp (k:=8) (f:=yg) (l:=σ.m) (v:=.s (.slice (some ⟨b,0,none⟩) σ.m.length cap)) (hS.at 0 rfl)) σ.m[k] rfl θ (λb3 cap3 L3 q1 q2 q3 q4=>⟨Tv,?_⟩),Tv⟩⟩;have hS5:=Foc.grow (k:=8) (f:=yg) (l:=σ.m) (v:=.s (.slice (some ⟨b,0,none⟩) σ.m.length cap)) (hS.at 0 rfl) q1 (λa=>RowsQ 8 yg a (.s (.slice (some ⟨b3,0,none⟩) (σ.m++[σ.m[k]]).length cap3)) (σ.m++[σ.m[k]])) (.cells ((rws yg (σ.m++[σ.m[k]])).flatten++L3)) (λa ha=>.inl (.inr ⟨b3,cap3,L3,rfl,ha,q2,q3,q4⟩));generalize S.sO b3 _=S5 at hS5⊢;have h5:=(hS5.at 7 rfl).obj;exact⟨za _ rfl (xf rfl (q9 (v:=.s (.slice (some ⟨b3,0,none⟩) (σ.m++[σ.m[k]]).length cap3)) rfl rfl rfl rfl (ye (i:=ti72) (v:=.s (.slice (some ⟨b3,0,none⟩) (σ.m++[σ.m[k]]).length cap3)) (b:=s) (o:=1) rfl rfl rfl h5 (show 1+1<=7 by decide) rfl ⟨Tv,ret (hR _ ⟨X,vp,_,vl,hX,hk,(hS5.at 7 rfl).store [vp,.s (.slice (some ⟨b3,0,none⟩) (σ.m++[σ.m[k]]).length cap3),nil,.s (.slice (some ⟨hb,0,none⟩) X.length X.length),nil,nil,vl]⟩)⟩))),Tv⟩
 ·rw[if_neg c2]at hR;refine Qbc ?_;refine Qd ((hS.at 0 rfl).call (T:=λr S'=>RowsQ 8 yg S' r (σ.m.eraseIdx k)) (λa ha=>yrc ha θ hkm _ (λv' N' hv=>hv)) (λr a' hr S' hS'=>?_));have hS5:=hS' (λa=>RowsQ 8 yg a r (σ.m.eraseIdx k)) hr;obtain⟨oa2,cap2,rfl,_⟩:=RowsQ.form (k:=8) (f:=yg) (l:=σ.m.eraseIdx k) hr;have h5:=(hS5.at 7 rfl).obj;refine ye (i:=ti72) (v:=.s (.slice oa2 (σ.m.eraseIdx k).length cap2)) (b:=s) (o:=1) rfl rfl rfl h5 (show 1+1<=7 by decide) rfl ?_;have hS6:=(hS5.at 7 rfl).store [vp,.s (.slice oa2 (σ.m.eraseIdx k).length cap2),nil,.s (.slice (some ⟨hb,0,none⟩) X.length X.length),nil,nil,vl];have h6:PtyX room s hb K {σ with m:=σ.m.eraseIdx k} _:=⟨X,vp,_,vl,hX,hk,hS6⟩
  refine zu (λc3=>?_) (λc3=>?_)
  ·rw[if_pos c3]at hR;exact zjf h6 (hok.erase k) hB hmx _ λS7 h7=>ret (hR _ h7)
  ·rw[if_neg c3]at hR;exact ret (hR _ h6)
end
section
variable {room:Int} {s hb K:Nat} {σ:Pty} {S:Store} {n d:Int} {B:Nat}
def PtyX.up(h:PtyX room s hb K σ S){L:Nat}(hl:K<=L):PtyX room s hb L σ S:=by have⟨X,vp,vm,vl,hX,hk,hS⟩:=h;exact⟨X,vp,vm,vl,hX,λo ho=>Fbx (hk o ho) hl,hS⟩
def ygb(hdo:DoC)(h:PtyX room s hb K σ S)(hok:PtyOK n d B σ)(hB:B<=900000)(hK:K<=100000000000000000){i:Nat}(hi:(i:Int)<n)(R:Ja)
  (hno:(∀o,σ.X[i]?=some o->¬Cr o.p)->R (V.bool false) S) (hyes:∀o,σ.X[i]?=some o->Cr o.p->∀S',PtyX room s hb (K+4096) ⟨σ.X.set i o.run,σ.m,if i=0 then σ.log++[⟨o.p.turn,nextC o.p,j1 o.next⟩]else σ.log⟩ S'->PtyOK n d (B+1) ⟨σ.X.set i o.run,σ.m,if i=0 then σ.log++[⟨o.p.turn,nextC o.p,j1 o.next⟩]else σ.log⟩->R (V.bool true) S'):Jb 104 [ptr s,int i] S R:=by
 have⟨X,vp,vm,vl,hX,hk,hS⟩:=h;have hl:=hok.lenX hX;have hn:=hok.n8;have hi2:i<X.length:=θ;have⟨f1,f2⟩:=hok.of hX hB hi2;have⟨a,hp,hw,ht,hh⟩:=hok.peer i _ (H1 hX hi2);have hp:qj X[i].p:=hp;have⟨n1,n2⟩:=zex hp;have hkk:=hk _ (Faa hi2);have hh:X[i].h.length<=B:=hh;have hll:=hok.ll;refine yih hS hi2 f1 f2 n1 n2 (.inr hdo) hw θ θ θ θ R (λhh=>hno λo ho hc=>?_) (λhr o vl2 S2 q1 q2 q3 q4 q5 q6 h2=>?_)
 ·rw[H1 hX hi2]at ho;cases ho;exact hh ⟨hp,hc⟩
 ·have hr1:=W6 i 1 hok;unfold Ax at hr1;rw[H1 hX hi2]at hr1;dsimp only at hr1;rw[if_pos (by exact hr.2)]at hr1;refine hyes _ (H1 hX hi2) hr.2 S2 ⟨_,_,_,_,?_,λx hx=>?_,h2⟩ hr1
  ·rw[ud hX]
   congr 1
   unfold One.core;rw[q4,q5,q6];rfl
  ·rcases po hx with rfl|hx
   ·omega
   ·have:=hk x hx;omega
def zb7(hdo:DoC)(h:PtyX room s hb K σ S)(hok:PtyOK n d B σ)(hB:B<=890000)(hK:K<=10000000000000000){i:Nat}(hi:(i:Int)<n)(R:Ja)(hR:∀S',PtyX room s hb (K+16384) (Bp i σ) S'->R (.tup []) S'):Jb 67 [ptr s,int i] S R:=by
 have⟨X,vp,vm,vl,hX,hk,hS⟩:=h;have hl:=hok.lenX hX;have hn:=hok.n8;have hi2:i<X.length:=θ;obtain⟨t,rfl⟩:=Lv hS (λe=>by rw[e]at hi2;exact absurd hi2 (Fa3 i));have⟨f1,f2⟩:=hok.of hX θ hi2;have⟨⟨a1,a2,a3⟩,hp,_⟩:=hok.peer i _ (H1 hX hi2);have hp:qj X[i].p:=hp;have a2:X[i].p.players=n:=a2;have h0:=Ci hS;have hq0:=Hh hS hi2;have hlm:=hok.lm;have hnl:=Ru X[i].p X[i].p.players.toNat;refine Qy 39 Tryz.func67 ?_;refine Qbc ?_;refine⟨i,rfl,za _ (wx _ hi2) (za (o:=S.obj X[i].q) _ hq0 (yjl X[i].p f1 hp f2 _ _ (Qbc (Foc.appL (ie:=ti183) rfl (λ_=>rfl) ψ (hS.at 0 rfl) (j4 X[i].p X[i].p.players.toNat) rfl θ (λoa cap S1 hS1=>?_)))))⟩;have h5:=(hS1.at 7 rfl).obj;refine ye (i:=ti72) (v:=.s (.slice oa (σ.m++j4 X[i].p X[i].p.players.toNat).length cap)) (b:=s) (o:=1) rfl rfl rfl h5 (show 1+1<=7 by decide) rfl ?_;have hS2:=(hS1.at 7 rfl).store [.lst 1 (X.map λo=>[ptr o.q]) (some t),.s (.slice oa (σ.m++j4 X[i].p X[i].p.players.toNat).length cap),nil,.s (.slice (some ⟨hb,0,none⟩) X.length X.length),nil,nil,vl];have h2:PtyX room s hb K {σ with m:=σ.m++j4 X[i].p X[i].p.players.toNat} _:=⟨X,_,_,vl,hX,hk,hS2⟩
 have hok2:PtyOK n d (B+8) {σ with m:=σ.m++j4 X[i].p X[i].p.players.toNat}:=⟨hok.n8,hok.len,(hok.up (C:=B+8) θ).peer,λx hx=>by
   rcases Faq.1 hx with hx|hx
   ·exact hok.note x hx
   ·exact o5 (o:=X[i].core) ⟨⟨a1,a2,a3⟩,hp⟩ hx,by dsimp only;rw[Fac];omega,by have:=hok.ll;dsimp only;omega,hok.lc⟩
 have et:Bp i σ=Ax i 4 {σ with m:=σ.m++j4 X[i].p X[i].p.players.toNat}:=by unfold Bp;rw[H1 hX hi2];rfl
 rw[et]at hR;generalize Pty.mk _ _ _=τ at hR h2 hok2;refine AWp.loop (σ:=Nat×Pty) ⟨λx=>[(0,.av (ptr s)),(1,.av (int (i:Nat))),(6,.av (int (x.1:Nat)))],λ_=>[],λx S'=>x.1<=4/\PtyX room s hb (K+4096*x.1) x.2 S'/\PtyOK n d (B+8+x.1) x.2/\Ax i (4-x.1) x.2=Ax i 4 τ,λx=>4-x.1⟩ zb ?_ ?_
 ·exact⟨(0,τ),Tv,⟨(show 0<=4 by decide),h2,hok2,rfl⟩,Qax,Tv⟩
 clear h2 hok2 hS2 hS1;rintro⟨c,ρ⟩ S3 ⟨hc4,h3,hok3,hrun⟩;dsimp only at hc4 h3 hok3 hrun⊢;refine bcd (λc1=>?_) (λc1=>?_)
 ·have hc3:c<4:=θ;obtain⟨j,hj⟩:∃j,4-c=j+1:=⟨3-c,θ⟩
  rw[hj]at hrun;refine ygb hdo h3 hok3 θ θ hi _ (λhno=>?_) (λo ho hcan S4 h4 hok4=>?_)
  ·have e:Ax i (j+1) ρ=ρ:=by
    unfold Ax;cases ho:ρ.X[i]? with
    |none=>rfl
    |some o=>exact if_neg (hno o ho)
   exact ret (hR S3 (by rw[<-hrun,e];exact h3.up θ))
  ·have e:Ax i (j+1) ρ=Ax i j ⟨ρ.X.set i o.run,ρ.m,if i=0 then ρ.log++[⟨o.p.turn,nextC o.p,j1 o.next⟩]else ρ.log⟩:=by
    conv=>lhs;unfold Ax
    rw[ho];exact if_pos hcan
   refine Qd ⟨(c+1,_),ϑ,⟨(show c+1<=4 by omega),h4.up (show K+4096*c+4096<=K+4096*(c+1) by omega),hok4.up (show B+8+c+1<=B+8+(c+1) by omega),?_⟩,⟨Tq,Tq,Tq,Tv⟩,Tv⟩;show Ax i (4-(c+1)) _=_;rw[<-hrun,e,show 4-(c+1)=j by omega]
 ·have:c=4:=θ;subst this;exact ret (hR S3 (by rw[<-hrun];exact h3.up θ))
end
end Go.Proofs
