/- Ground of laws of thronglaw30: contracts and plain lemmas; no condition beyond the row's own. -/
import Derived.Test.YtieceacpbjcddaaGreatLA
import Derived.Test.YtieceacpbjcddaaGreatKZ
import Derived.Test.YtieceacpbjcddaaGreatKN
set_option linter.unusedSimpArgs false
set_option linter.unusedVariables false
set_option linter.defProp false
namespace Go.Proofs
open Go Go.V
set_option maxRecDepth 20000
set_option maxHeartbeats 4000000
section
variable {st0 st:Store} {v:AV}
theorem fk(st:Store)(R:Ja)(h:R (u64 14695981039346656037) st):Jb 88 [] st R:=by
 refine Qa (c:=cfg 1) zb Tryz.func88 ?_
 exact⟨_,st,Tt,Store.Has.refl st,h⟩
theorem uh(n:Int)(st0 st:Store)(v:AV)(rows:List (List AV))(ha:App 1 st0 v rows st)(hr:rows.length<=100000000000000)(hn:n<=9223372036854775807)(R:Ja)
  (h:∀v' st',App 1 st0 v' (rows++rowsB (qe n)) st'->R v' st'):Jb 102 [v,int n] st R:=by
 refine Qa (c:=cfg 20) zb Tryz.func102 ?_
 refine AWp.loop (σ:=AV×Int×List (List AV)) ⟨λs=>[(0,.av s.1),(1,.av (int s.2.1))],λ_=>[],λs st'=>App 1 st0 s.1 s.2.2 st'/\s.2.2++rowsB (qe s.2.1)=rows++rowsB (qe n),λs=>s.2.1.toNat⟩ zb ?_ ?_
 ·exact⟨(v,n,rows),Tv,⟨ha,rfl⟩,⟨Tq,Tq,Tv⟩,Tv⟩
 ·rintro⟨v,m,rs⟩ st ⟨ha,heq⟩
  simp only at ha heq
  have hrs:rs.length<=rows.length+9:=by
   have h1:=congrArg List.length heq
   simp only[Fad,zh]at h1
   have:=Ac hn
   omega
  refine zi (λh1=>?_) (λh1=>?_)
  ·have h1:128<=m:=by simpa using h1
   refine⟨by decide,?_⟩
   refine Bo (ie:=ti5) (rows':=[[.s (.int .u8 (vd .or .u8 (IntKind.u8.wrap m) 128))]]) ha ?_ ?_ ⟨?_,?_⟩ (λv2 st2 ha2=>?_)
   ·rfl
   ·rfl
   ·simp[ti5];omega
   ·simp;omega
   ·refine⟨by decide,?_⟩
    refine⟨(v2,m.fdiv (2^(min (7:Int).toNat IntKind.i64.bits)),_),?_,⟨ha2,?_⟩,⟨Tq,Tq,Tv⟩,Tv⟩
    ·show(m.fdiv (2^(min (7:Int).toNat IntKind.i64.bits))).toNat<m.toNat
     rw[ge]
     omega
    ·show(rs++_)++rowsB (qe (m.fdiv (2^(min (7:Int).toNat IntKind.i64.bits))))=_
     rw[ge,zvg,<-heq,zul h1,Faz]
     rfl
  ·have h1:m<128:=by simpa using h1
   refine⟨by decide,?_⟩
   refine Bo (ie:=ti5) (rows':=[[.s (.int .u8 (IntKind.u8.wrap m))]]) ha ?_ ?_ ⟨?_,?_⟩ (λv2 st2 ha2=>?_)
   ·rfl
   ·rfl
   ·simp[ti5];omega
   ·simp;omega
   ·refine⟨_,st2,Tt,Store.Has.refl st2,h _ _ ?_⟩
    rw[<-heq,zuk h1]
    rw[V1]at ha2
    exact ha2
theorem Ib(n:Int){bs:List UInt8}(ha:App 1 st0 v (rowsB bs) st)(hr:bs.length<=100000000000000)(hn:n<=9223372036854775807){R:Ja}
  (h:∀v' st',App 1 st0 v' (rowsB (bs++qe n)) st'->R v' st'):Jb 102 [v,int n] st R:=
 uh n st0 st v _ ha (by rw[zh];exact hr) hn R λv' st' h'=>h v' st' (by rw[Gt]at h';exact h')
theorem Me{n:Nat}{G W:List Nat}{x:LV}{bs l:List UInt8}{K:Ja}(ha:App 1 st0 v (rowsB bs) st)(hx:jv 1 x=some (rowsB l))(hr:bs.length+l.length<=100000000000010)
  (h:∀v' st',App 1 st0 v' (rowsB (bs++l)) st'->K v' st'):appendK Tryz.prog (cfg n G W) st 5 (.av v) x K:=by
 refine Bo (ie:=ti5) (rows':=rowsB l) ha ?_ hx ⟨?_,?_⟩ (λv2 st2 ha2=>?_)
 ·rfl
 ·simp[zh,ti5];omega
 ·simp[zh];omega
 ·rw[Gt]at ha2
  exact h _ _ ha2
end
theorem l5(a:Int):xq [a]=qe a:=by simp[xq]
theorem yac(s:Int)(l:List UInt8)(hl:l.length<=1000000000000)(st:Store)(R:Ja)(h:R (u64 (Ce s l)) st):Jb 87 [u64 s,qc l] st R:=by
 refine Qa (c:=cfg 20) zb Tryz.func87 ?_
 refine AWp.loop (σ:=Nat) ⟨λi=>[(0,.av (u64 (Ce s (l.take i)))),(7,.av (qc l)),(8,.av (int l.length)),(9,.av (int (i:Nat)))],λ_=>[],
  λi st'=>i<=l.length/\st'=st,λi=>l.length-i⟩ zb ?_ ?_
 ·refine⟨0,Tv,⟨Faf _,rfl⟩,⟨Tq,Tq,?_,Tq,Tv⟩,Tv⟩
  rw[<-zh (f:=u8C) l]
  exact Tq
 ·rintro i st' ⟨hi,rfl⟩
  refine zi (λh1=>?_) (λh1=>?_)
  ·have hlt:i<l.length:=by simpa using h1
   refine⟨i,rfl,za _ (zw hlt) ?_⟩
   refine⟨⟨by omega,by omega⟩,?_⟩
   refine⟨i+1,?_,⟨hlt,rfl⟩,⟨?_,Tq,Tq,Tq,Tv⟩,Tv⟩
   ·show l.length-(i+1)<l.length-i
    omega
   ·rw[yab hlt]
    exact Tq
  ·have hge:i=l.length:=by
    have:¬i<l.length:=by simpa using h1
    omega
   subst hge
   refine⟨_,st',Tt,Store.Has.refl st',?_⟩
   rw[<-Fap (l:=l)]at h
   exact h
theorem ph(s:Int){l:List UInt8}{v:AV}(hv:AV.le v (qc l))(hl:l.length<=1000000000000){st:Store}{R:Ja}(h:R (u64 (Ce s l)) st):Jb 87 [u64 s,v] st R:=
 ACalls.le (ys:=[u64 s,qc l]) ⟨Tt,hv,Tv⟩ (yac s l hl st R h)
theorem yad(s:Int)(st:Store)(R:Ja)(h:R (qc (D3 s)) st):Jb 104 [u64 s] st R:=by
 refine Qa (c:=cfg 14) zb Tryz.func104 ?_
 refine AWp.loop (σ:=Nat×AV) ⟨λx=>[(0,.av (u64 (s/256^x.1))),(2,.av x.2),(3,.av (int (x.1:Nat)))],λ_=>[],
  λx st'=>x.1<=8/\App 1 st x.2 (rowsB ((D3 s).take x.1)) st',λx=>8-x.1⟩ zb ?_ ?_
 ·refine⟨(0,_),Tv,⟨Faf _,App.start 1 st⟩,⟨?_,Tq,Tq,Tv⟩,Tv⟩
  show LV.le (.av (u64 s)) (.av (u64 (s/256^0)))
  rw[Int.pow_zero,Int.ediv_one]
  exact Tq
 ·rintro⟨i,v⟩ st' ⟨hi,ha⟩
  simp only at hi ha
  refine zi (λh1=>?_) (λh1=>?_)
  ·have hlt:i<8:=by simp at h1;omega
   refine⟨by decide,?_⟩
   refine Bo (ie:=ti5) (rows':=[[.s (.int .u8 (IntKind.u8.wrap (s/256^i)))]]) ha ?_ ?_ ⟨?_,?_⟩ (λv2 st2 ha2=>?_)
   ·rfl
   ·rfl
   ·simp[zh,ti5];omega
   ·simp[zh];omega
   ·refine⟨by decide,?_⟩
    refine⟨⟨by omega,by omega⟩,?_⟩
    refine⟨(i+1,v2),?_,⟨hlt,?_⟩,⟨?_,Tq,Tq,Tv⟩,Tv⟩
    ·show 8-(i+1)<8-i
     omega
    ·show App 1 st v2 (rws u8C ((D3 s).take (i+1))) st2
     rw[<-ybf s hlt,<-Gt]
     rw[V1]at ha2
     exact ha2
    ·show LV.le (.av (u64 ((s/256^i).fdiv (2^(min (8:Int).toNat IntKind.u64.bits))))) _
     rw[zp5]
     exact Tq
  ·have hge:i=8:=by simp at h1;omega
   subst hge
   refine⟨_,st,AV.le_trans ha.le ?_,ha.has,h⟩
   rw[Fco (by rw[W0];exact Fah _)]
   exact Tt
theorem zpk(st:Store)(R:Ja)(h:R (u64 Iz) st):Jb 88 [] st R:=fk st R h
theorem zt3(l:List UInt8)(hl:l.length<=1048576)(st:Store)(R:Ja)(h:R (.tup [qc (qe l.length++l),int 0]) st):Jb 100 [qc l] st R:=by
 refine Qa (c:=cfg 12) zb Tryz.func100 ?_
 refine bcd (λh1=>?_) (λh1=>?_)
 ·rw[zh]at h1
  omega
 refine Ib (bs:=[]) _ (App.start 1 st) (by simp) (by rw[zh];omega) (λv st1 ha=>?_)
 rw[zh]at ha
 have:=Ac (n:=(l.length:Int)) (by omega)
 refine Me ha (l:=l) (by rfl) (by simp;omega) (λv2 st2 ha2=>?_)
 exact K0 h ha2.has (AV.le_tupL ⟨ha2.le,Tt,Tv⟩)
theorem zx7(n:Int)(hn:I62 n)(st:Store)(R:Ja)(h:R (.tup [qc (Ah n),int 0]) st):Jb 166 [int n] st R:=by
 refine Qa (c:=cfg 21) zb Tryz.func166 ?_
 unfold I62 at hn
 have fin:∀{v:AV} {st2:Store} {l:List UInt8},App 1 st v (rowsB ([]++l)) st2->l=Ah n->∃r st',AV.le (.tup [v,int 0]) r/\st2.Has st'/\R r st':=by
  rintro v st2 l ha rfl
  exact K0 h ha.has (AV.le_tupL ⟨ha.le,Tt,Tv⟩)
 refine bcd (λh1=>?_) (λh1=>?_)
 ·exact absurd h1 (Int.not_lt.2 (Int.le_of_lt hn.1))
 refine bcd (λh1=>absurd h1 (Int.not_le.2 hn.2)) (λh1=>?_)
 refine bcd (λh2=>?_) (λh2=>?_)
 ·have r1:zy ((-2:Int)*n):=⟨by omega,by omega⟩
  have r2:zy ((-2:Int)*n-1):=⟨by omega,by omega⟩
  refine⟨r1,r2,?_⟩
  refine Ib (bs:=[]) ((-2:Int)*n-1) (App.start 1 st) (by simp) (by omega) (λv st1 ha=>?_)
  exact fin ha (by unfold Ah;rw[if_pos h2])
 ·refine⟨⟨by omega,by omega⟩,?_⟩
  refine Ib (bs:=[]) _ (App.start 1 st) (by simp) (by omega) (λv st1 ha=>?_)
  exact fin ha (by unfold Ah;rw[if_neg h2])
theorem zxi(g:Gnd)(hg:zp g)(st:Store)(R:Ja)(h:R (qc (Bl g)) st):Jb 101 [.agg (zn g)] st R:=by
 refine Qa (c:=cfg 21 [4] []) zb Tryz.func101 ?_
 obtain⟨h1,h2,h3,_⟩:=hg
 have hm:=M7 h1 h2
 have hw:=Ac (n:=g.W) (by omega)
 have hh:=Ac (n:=g.H) (by omega)
 refine Qc zb zs0 ?_
 refine⟨⟨by decide,λb hb=>⟨Qe,?_⟩⟩,Tv⟩
 refine⟨optR (optR (optR (za _ (H3 _ _ _) ⟨Qe,?_⟩))),Tv⟩
 refine⟨Ib (bs:=[84,71]) _ (cj hb (by simp[rws])) (by simp) (by omega) (λv st1 ha=>⟨Qe,?_⟩),Tv⟩
 refine⟨Ib _ ha (by simp;omega) (by omega) (λv st1 ha=>⟨Qe,?_⟩),Tv⟩
 refine⟨Me ha (l:=g.T) (by rfl) (by simp;omega) (λv st1 ha=>⟨Qe,?_⟩),Tv⟩
 refine Qas ?_
 refine fk _ _ ?_
 have e:([84,71]++qe g.W++qe g.H++g.T)=Gp g:=rfl
 rw[e]at ha
 have hl:(Gp g).length<=20000:=by simp only[<-e,Fad,Fbd,Fcr];omega
 refine ph _ ha.le (by omega) ?_
 refine yad _ _ _ ?_
 refine Me ha (l:=D3 (Ce Iz (Gp g))) (by rfl) (by rw[W0];omega) (λv st1 ha=>?_)
 exact K0 h ha.has ha.le
theorem Qah{p:Prop}(h:p:=by simp only[Fad,Fbd,Fcr];omega):p:=h
theorem Qai{p:Prop}(h:p:=by simp only[Fbx,forall_eq];rw[zh];unfold I64;omega):p:=h
theorem Qaj{p:Prop}(h:p:=by rw[Fad];omega):p:=h
theorem Iq(l:List Int)(hl:l.length<=64)(hn:∀n∈l,I64 n){p:Nat}{st0 st:Store}{v:AV}{bs:List UInt8}(ha:App 1 (st0.sO p (.cells [v])) v (rowsB bs) st)(hr:bs.length<=90000000000000){R:Ja}
  (h:∀v' st',App 1 (st0.sO p (.cells [v'])) v' (rowsB (bs++xq l)) st'->R (.tup []) st'):Jb 165 [yg l,.s (.pointer (some ⟨p,0,none⟩))] st R:=by
 refine Qa (c:=cfg 15) zb Tryz.func165 ?_
 refine AWp.loop (σ:=Nat×AV) ⟨λs=>[(1,.av (.s (.pointer (some ⟨p,0,none⟩)))),(5,.av (yg l)),(6,.av (int l.length)),(7,.av (int s.1))],λ_=>[],λs st'=>s.1<=l.length/\App 1 (st0.sO p (.cells [s.2])) s.2 (rowsB (bs++xq (l.take s.1))) st',λs=>l.length-s.1⟩ zb ?_ ?_
 ·refine⟨(0,v),Tv,⟨Faf _,by simpa [xq]using ha⟩,⟨Tq,Tq,?_,Tq,Tv⟩,Tv⟩
  rw[<-zh (f:=zu) l]
  exact Tq
 ·rintro⟨i,v⟩ st' ⟨hi,ha⟩
  simp only at hi ha
  refine bcd (λh1=>?_) (λh1=>?_)
  ·have hlt:i<l.length:=by omega
   refine⟨i,rfl,za _ (zw hlt) ?_⟩
   refine za _ ha.read ?_
   have hlen:=Gy (l:=l.take i) λn hn'=>(hn n (Fcg hn')).2
   rw[Fal]at hlen
   refine Ib _ ha (by simp;omega) (hn _ (Faa hlt)).2 (λv st1 ha=>?_)
   refine Bs ha.cells ha.one (by rfl) ha.read (Fah _) ?_
   refine⟨⟨by omega,by omega⟩,?_⟩
   refine⟨(i+1,v),?_,⟨hlt,?_⟩,Qao,Tv⟩
   ·show l.length-(i+1)<l.length-i
    omega
   ·rw[zvv hlt,<-Faz]
    exact ha.sO
  ·obtain rfl:i=l.length:=by omega
   rw[Fap]at ha
   exact ret (h _ _ ha)
theorem Wp{α:Type}(f:α->List UInt8){l:List α}{i:Nat}(h:i<l.length):(l.take (i+1)).flatMap f=(l.take i).flatMap f++f l[i]:=by
 rw[Fac h,List.flatMap_append,List.flatMap_singleton]
theorem I1{α:Type}(f:α->List UInt8)(n:Nat):∀l:List α,(∀x∈l,(f x).length<=n)->(l.flatMap f).length<=n*l.length:=by
 intro l
 induction l with
 |nil=>intro _;simp
 |cons a l ih=>
  intro h
  have h1:=h a (Fa6 ..)
  have h2:=ih λx hx=>h x (Fav _ hx)
  rw[List.flatMap_cons,Fad,Fbd,Nat.mul_add]
  omega
theorem vg{n:Int}(h:qg n):I64 n:=by unfold qg at h;unfold I64;omega
theorem bv{b:Bld}(h:bu b):(Di b).length<=54:=by
 unfold Di
 refine Fcj (Gy λn hn=>?_) (show 9*6<=54 by decide)
 obtain⟨h1,h2,h3,h4,h5,h6⟩:=h
 simp at hn
 rcases hn with rfl|rfl|rfl|rfl|rfl|rfl
 ·exact h1.2
 ·exact h2.2
 ·exact h3.2
 ·exact h4.2
 ·exact h5.2
 ·exact h6.2
theorem dq{u:Unt}(h:dp u):(wn u).length<=90:=by
 obtain⟨h1,h2,h3,h4,h5,h6,h7,h8,h9,h10⟩:=h
 have a1:(xq [u.id,u.owner,u.kind]).length<=9*3:=Gy λn hn=>by
  simp at hn
  rcases hn with rfl|rfl|rfl
  ·exact h1.2
  ·exact h2.2
  ·exact h3.2
 have a2:(xq [u.goal+1,u.next+1,u.stuck,u.inn,u.state]).length<=9*5:=Gy λn hn=>by
  simp at hn
  rcases hn with rfl|rfl|rfl|rfl|rfl
  ·exact h6.2
  ·exact h7.2
  ·exact h8.2
  ·exact h9.2
  ·exact h10.2
 have a3:=Ol h4
 have a4:=Ol h5
 unfold wn
 simp only[Fad]
 omega
theorem zyl(w:Wld)(hw:Mm w)(st:Store)(R:Ja)(h:∀v st',App 1 st v (rowsB (D8 w)) st'->R v st'):Jb 89 [.agg (zk w)] st R:=by
 obtain⟨n1,n2,n3,hg,⟨hB,hbn⟩,hU,hun⟩:=hw
 have hgl:=(o4 hg).2
 have hgp:(qe (Bl w.G).length).length<=9:=Ac (by omega)
 have l0:(xq [w.tick,w.players,w.next]).length<=9*3:=Gy λn hn=>by
  simp at hn
  rcases hn with rfl|rfl|rfl
  ·exact n1.2
  ·exact n2.2
  ·exact n3.2
 refine Qb (c:=cfg 126 [3,15] []) zb Tryz.func89 ?_
 refine AWp.seq (AWp.of_vc zb ?_)
 refine AWp.seq (AWp.of_vc zb ?_)
 refine⟨by decide,λb hb=>?_⟩
 refine optR (optR (optR (za _ (H3 _ _ _) ?_)))
 refine λp hp=>?_
 have ha0:=(cj (k:=1) (rows:=rowsB [84,87]) hb (by simp[rws])).boxed hp (x:=.cells [.lst 1 (rowsB [84,87]) (some b)])
 have h0:=(cj (k:=1) (rows:=rowsB [84,87]) hb (by simp[rws])).fresh hp
 refine Bs (i:=ti22) ha0.cells ha0.one (by rfl) (zc _ _ _) (Fah _) ?_
 rw[yl]
 have ha0:App 1 (st.sO p (.cells [.lst 1 (rowsB [84,87]) (some b)])) (.lst 1 (rowsB [84,87]) (some b)) (rowsB [84,87]) ((st.sT b (some 2)).sO p (.cells [.lst 1 (rowsB [84,87]) (some b)])):=ha0
 show wd _ _ _ _ _ _ ((st.sT b (some 2)).sO p (.cells [.lst 1 (rowsB [84,87]) (some b)]))
 generalize(AV.lst 1 (rowsB [84,87]) (some b))=v0 at ha0
 generalize(st.sT b (some 2)).sO p (.cells [v0])=st0 at ha0
 refine AWp.seq (AWp.of_vc zb ?_)
 refine AWp.seq (AWp.of_vc zb ?_)
 refine⟨by decide,?_⟩
 refine Iq [w.tick,w.players,w.next] (by simp) (by simp;exact⟨vg n1,vg n2,vg n3⟩) ha0 (by simp) (λv1 st1 ha1=>?_)
 refine AWp.seq (AWp.of_vc zb ?_)
 refine zxi w.G hg _ _ ?_
 refine zt3 (Bl w.G) (by omega) _ _ ?_
 refine AWp.seq (AWp.of_vc zb ?_)
 first|refine za _ (ha1.read) ?_|refine optR (za _ (ha1.read) ?_)|refine optR (optR (za _ (ha1.read) ?_))
 refine Me ha1 (l:=qe (Bl w.G).length++Bl w.G) (by rfl) Qah (λv2 st2 ha2=>?_)
 refine Bs (i:=ti22) ha2.cells ha2.one (by rfl) ha2.read (Fah _) ?_
 have ha2:=ha2.sO (y:=.cells [v2])
 refine AWp.seq (AWp.of_vc zb ?_)
 refine⟨by decide,?_⟩
 have p1:(qe (w.B.length:Int)).length<=9:=Ac (by omega)
 refine Iq [((rws zr w.B).length:Int)] (by simp) Qai ha2 Qah (λv3 st3 ha3=>?_)
 rw[zh,l5]at ha3
 generalize hpre:[84,87]++xq [w.tick,w.players,w.next]++(qe (Bl w.G).length++Bl w.G)++qe (w.B.length:Int)=pre at ha3
 have hprel:pre.length<=17000:=by rw[<-hpre];simp only[Fad,Fbd,Fcr];omega
 refine AWp.meetA (σ:=AV) ⟨λv=>[(1,.bx 1 0),(3,.av (ptr p)),(4,.av (.clos 165 [ptr p]))],λ_=>[(1,zk w)],λv st'=>App 1 (st.sO p (.cells [v])) v (rowsB (pre++w.B.flatMap Di)) st'⟩ ?_ ?_
 ·refine AWp.seq (AWp.of_vc zb ?_)
  refine AWp.of_vc zb ?_
  refine AWp.loop (σ:=Nat×AV) ⟨λx=>[(1,.bx 1 0),(3,.av (ptr p)),(4,.av (.clos 165 [ptr p])),(44,.av (lst 6 zr w.B)),(45,.av (int (w.B.length:Nat))),(46,.av (int (x.1:Nat)))],λ_=>[(1,zk w)],
   λx st'=>x.1<=w.B.length/\App 1 (st.sO p (.cells [x.2])) x.2 (rowsB (pre++(w.B.take x.1).flatMap Di)) st',λx=>w.B.length-x.1⟩ zb ?_ ?_
  ·refine⟨(0,v3),Tv,⟨Faf _,by simpa using ha3⟩,⟨Tq,Tq,Tq,Tq,?_,Tq,Tv⟩,⟨rfl,Tv⟩⟩
   rw[<-zh (f:=zr) w.B];exact Tq
  rintro⟨i,v⟩ st' ⟨hi,ha⟩
  dsimp only at hi ha⊢
  refine bcd (λh1=>?_) (λh1=>?_)
  rotate_left
  ·have:i=w.B.length:=by omega
   subst this
   rw[Fap]at ha
   exact⟨v,ha,Qao,⟨rfl,Tv⟩⟩
  have hlt:i<w.B.length:=by omega
  obtain⟨b1,b2,b3,b4,b5,b6⟩:=hbn _ (Faa hlt)
  have hfl:=I1 Di 54 (w.B.take i) λx hx=>bv (hbn x (Fcg hx))
  rw[Fal]at hfl
  refine⟨i,rfl,za _ (zw hlt) ?_⟩
  refine⟨by decide,?_⟩
  refine Iq [w.B[i].id,w.B[i].owner,w.B[i].x,w.B[i].y,w.B[i].w,w.B[i].h] (by simp) (by simp;exact⟨vg b1,vg b2,vg b3,vg b4,vg b5,vg b6⟩) ha Qaj (λv4 st4 ha4=>?_)
  refine Qd ?_
  refine⟨(i+1,v4),?_,⟨by dsimp only;omega,?_⟩,Qao,⟨rfl,Tv⟩⟩
  ·show w.B.length-(i+1)<w.B.length-i
   omega
  ·dsimp only
   rw[Wp Di hlt,<-Faz]
   exact ha4
 rintro v5 st5 ha5
 dsimp only at ha5⊢
 have hfl:=I1 Di 54 w.B λx hx=>bv (hbn x hx)
 have p2:(qe (w.U.length:Int)).length<=9:=Ac (by omega)
 refine AWp.seq (AWp.of_vc zb ?_)
 refine⟨by decide,?_⟩
 refine Iq [((rws zl w.U).length:Int)] (by simp) Qai ha5 Qaj (λv6 st6 ha6=>?_)
 rw[zh,l5]at ha6
 generalize hpre2:pre++w.B.flatMap Di++qe (w.U.length:Int)=pre2 at ha6
 have hpre2l:pre2.length<=40000:=by rw[<-hpre2];simp only[Fad];omega
 refine AWp.meetA (σ:=AV) ⟨λv=>[(3,.av (ptr p))],λ_=>[],λv st'=>App 1 (st.sO p (.cells [v])) v (rowsB (pre2++w.U.flatMap wn)) st'⟩ ?_ ?_
 ·refine AWp.seq (AWp.of_vc zb ?_)
  refine AWp.of_vc zb ?_
  refine AWp.loop (σ:=Nat×AV) ⟨λx=>[(1,.bx 1 0),(3,.av (ptr p)),(4,.av (.clos 165 [ptr p])),(73,.av (lst 10 zl w.U)),(74,.av (int (w.U.length:Nat))),(75,.av (int (x.1:Nat)))],λ_=>[(1,zk w)],
   λx st'=>x.1<=w.U.length/\App 1 (st.sO p (.cells [x.2])) x.2 (rowsB (pre2++(w.U.take x.1).flatMap wn)) st',λx=>w.U.length-x.1⟩ zb ?_ ?_
  ·refine⟨(0,v6),Tv,⟨Faf _,by simpa using ha6⟩,⟨Tq,Tq,Tq,Tq,?_,Tq,Tv⟩,⟨rfl,Tv⟩⟩
   rw[<-zh (f:=zl) w.U];exact Tq
  rintro⟨i,v⟩ st' ⟨hi,ha⟩
  dsimp only at hi ha⊢
  refine bcd (λh1=>?_) (λh1=>?_)
  rotate_left
  ·have:i=w.U.length:=by omega
   subst this
   rw[Fap]at ha
   exact⟨v,ha,⟨Tq,Tv⟩,Tv⟩
  have hlt:i<w.U.length:=by omega
  obtain⟨u1,u2,u3,u4,u5,u6,u7,u8,u9,u10⟩:=hun _ (Faa hlt)
  have hfl:=I1 wn 90 (w.U.take i) λx hx=>dq (hun x (Fcg hx))
  rw[Fal]at hfl
  refine⟨i,rfl,za _ (zw hlt) ?_⟩
  refine⟨by decide,?_⟩
  have q1:(xq [w.U[i].id,w.U[i].owner,w.U[i].kind]).length<=9*3:=Gy λn hn=>by
   simp at hn
   rcases hn with rfl|rfl|rfl
   ·exact u1.2
   ·exact u2.2
   ·exact u3.2
  refine Iq [w.U[i].id,w.U[i].owner,w.U[i].kind] (by simp) (by simp;exact⟨vg u1,vg u2,vg u3⟩) ha Qaj (λv7 st7 ha7=>?_)
  refine⟨by decide,?_⟩
  obtain⟨pp,hpp,hpl,hall⟩:∃pp:List Int,[w.U[i].pos.1,w.U[i].pos.2]=pp/\pp.length=2/\∀x∈pp,I62 x:=⟨_,rfl,rfl,by simp;exact⟨u4,u5⟩⟩
  refine AWp.loop (σ:=Nat×AV) ⟨λx=>[(1,.bx 1 0),(3,.av (ptr p)),(4,.av (.clos 165 [ptr p])),(73,.av (lst 10 zl w.U)),(74,.av (int (w.U.length:Nat))),(75,.av (int (i:Nat))),(10,.bx 10 0),(94,.av (lst 1 zu pp)),(95,.av (int 2)),(96,.av (int (x.1:Nat)))],λ_=>[(1,zk w),(10,zl w.U[i])],
   λx st'=>x.1<=2/\App 1 (st.sO p (.cells [x.2])) x.2 (rowsB (pre2++(w.U.take i).flatMap wn++xq [w.U[i].id,w.U[i].owner,w.U[i].kind]++(pp.take x.1).flatMap Ah)) st',λx=>2-x.1⟩ zb ?_ ?_
  ·refine⟨(0,v7),Tv,⟨Faf _,by simpa using ha7⟩,⟨Tq,Tq,Tq,Tq,Tq,Tq,Tq,?_,Tq,Tq,Tv⟩,⟨rfl,rfl,Tv⟩⟩
   rw[<-hpp];exact Tq
  rintro⟨j,v8⟩ st8 ⟨hj,ha8⟩
  dsimp only at hj ha8⊢
  have hifl:=I1 Ah 9 (pp.take j) λx hx=>by
   obtain⟨m,hm,rfl⟩:=Faj (Fcg hx)
   exact Ol (hall _ (Faa hm))
  rw[Fal]at hifl
  refine bcd (λh2=>?_) (λh2=>?_)
  ·have hj2:j<2:=by omega
   refine⟨j,rfl,za _ (zw (show j<pp.length by omega)) ?_⟩
   refine zx7 pp[j] (hall _ (Faa _)) _ _ ?_
   first|refine za _ (ha8.read) ?_|refine optR (za _ (ha8.read) ?_)|refine optR (optR (za _ (ha8.read) ?_))
   have hz:=Ol (hall pp[j] (Faa _))
   refine Me ha8 (l:=Ah pp[j]) (by rfl) (by simp only[Fad];omega) (λv9 st9 ha9=>?_)
   refine Bs (i:=ti22) ha9.cells ha9.one (by rfl) ha9.read (Fah _) ?_
   refine Qd ?_
   refine⟨(j+1,v9),?_,⟨by dsimp only;omega,?_⟩,Qao,⟨rfl,rfl,Tv⟩⟩
   ·show 2-(j+1)<2-j
    omega
   ·dsimp only
    rw[Wp Ah (show j<pp.length by omega),<-Faz]
    exact ha9.sO
  ·have:j=2:=by omega
   subst this
   have e2:pp.take 2=pp:=Fco (by omega)
   rw[e2,<-hpp]at ha8
   rw[e2,<-hpp]at hifl
   refine ze (by unfold qg at u6;omega) ?_
   refine ze (by unfold qg at u7;omega) ?_
   refine⟨by decide,?_⟩
   refine Iq [w.U[i].goal+1,w.U[i].next+1,w.U[i].stuck,w.U[i].inn,w.U[i].state] (by simp) (by simp;exact⟨vg u6,vg u7,vg u8,vg u9,vg u10⟩) ha8 (by simp only[Fad];omega) (λv9 st9 ha9=>?_)
   refine Qd ?_
   refine⟨(i+1,v9),?_,⟨by dsimp only;omega,?_⟩,Qao,⟨rfl,Tv⟩⟩
   ·show w.U.length-(i+1)<w.U.length-i
    omega
   ·dsimp only
    rw[Wp wn hlt]
    have e:pre2++(w.U.take i).flatMap wn++xq [w.U[i].id,w.U[i].owner,w.U[i].kind]++[w.U[i].pos.1,w.U[i].pos.2].flatMap Ah++xq [w.U[i].goal+1,w.U[i].next+1,w.U[i].stuck,w.U[i].inn,w.U[i].state]=pre2++((w.U.take i).flatMap wn++wn w.U[i]):=by
     unfold wn
     simp
    rw[<-e]
    exact ha9
 rintro v10 st10 ha10
 dsimp only at ha10⊢
 refine AWp.of_vc zb ?_
 first|refine za _ (ha10.read) ?_|refine optR (za _ (ha10.read) ?_)|refine optR (optR (za _ (ha10.read) ?_))
 have e:pre2++w.U.flatMap wn=D8 w:=by
  rw[<-hpre2,<-hpre]
  unfold D8
  simp
 rw[e]at ha10
 obtain⟨st3,h3,h4⟩:=ha10.dropObj h0
 exact K0 (h _ _ h3) h4 (Tt)
end Go.Proofs
namespace Go.Proofs
open Go Go.V
set_option maxRecDepth 20000
set_option maxHeartbeats 4000000
theorem uq{w:Wld}(hw:Mm w):(D8 w).length<=500000:=by
 obtain⟨n1,n2,n3,hg,⟨hB,hbn⟩,hU,hun⟩:=hw
 have hgl:=(o4 hg).2
 have hgp:(qe (Bl w.G).length).length<=9:=Ac (by omega)
 have l0:(xq [w.tick,w.players,w.next]).length<=9*3:=Gy λn hn=>by
  simp at hn
  rcases hn with rfl|rfl|rfl
  ·exact n1.2
  ·exact n2.2
  ·exact n3.2
 have p1:(qe (w.B.length:Int)).length<=9:=Ac (by omega)
 have p2:(qe (w.U.length:Int)).length<=9:=Ac (by omega)
 have f1:=I1 Di 54 w.B λx hx=>bv (hbn x hx)
 have f2:=I1 wn 90 w.U λx hx=>dq (hun x hx)
 unfold D8
 simp only[Fad,Fbd,Fcr]
 omega
theorem zx0(w:Wld)(hw:Mm w)(st:Store)(R:Ja)(h:R (u64 (Ce Iz (D8 w))) st):Jb 48 [.agg (zk w)] st R:=by
 have hl:=uq hw
 refine Qa (c:=cfg 7) zb Tryz.func48 ?_
 refine Qc zb zqu ?_
 refine⟨zpk _ _ ⟨Qe,?_⟩,Tv⟩
 refine⟨zyl w hw _ _ (λv st' ha=>⟨Tv,?_⟩),Tv⟩
 refine⟨ph _ ha.le (by omega) ⟨Tv,?_⟩,Tv⟩
 refine Qas ?_
 exact K0 h ha.has (Tt)
section
variable {cap s:Nat} {S:Store}
theorem Qak{p:Prop}(h:p:=by unfold Dw;omega):p:=h
def Dw(n kd pe nn:Int):Prop:=kd=99\/kd=3\/(kd=2/\n<pe)\/(kd=1/\pe<1)\/(kd=6/\(nn<=0\/60<nn))
theorem zxp{oa:Option Addr}{vl:AV}{rest:List AV}(hs:S.obj s=some (.cells (vl::.s (.slice oa 0 cap)::rest)))(a:List AV)(ha:a.length=5)(R:Ja)(h:R (.tup []) S):Jb 117 [ptr s,.agg a] S R:=by
 refine Qa (c:=cfg 59) zb Tryz.func117 ?_
 refine Qat ?_
 exact ret h
theorem ye3{oa:Option Addr}{rows:List (List AV)}{tok:Option Nat}{rest:List AV}(hs:S.obj s=some (.cells (.lst 1 rows tok::.s (.slice oa 0 cap)::rest)))(kd pe nn:Int)(x y:AV)(hi:Dw (rows.length:Nat) kd pe nn)(R:Ja)(h:R (.tup []) S):Jb 60 [ptr s,.agg [int kd,int pe,int nn,x,y]] S R:=by
 refine Qa (c:=cfg 61) zb Tryz.func60 ?_
 refine Qc zb gp ?_
 refine bcd (λc1=>?_) (λc1=>?_)
 refine Qat ?_
 rotate_left
 all_goals
  refine Qas ?_
  refine qf (λe1=>?_) (λe1=>?_)
  ·first|exact ret h|exact absurd hi Qak
  refine qf (λe2=>?_) (λe2=>?_)
  ·first|exact ret h|exact zi (λc2=>absurd hi (by have:=of_decide_eq_true c2;unfold Dw;omega)) (λ_=>ret h)
  refine qf (λe3=>?_) (λe3=>?_)
  ·refine qf (λ_=>?_) (λc=>absurd e3 c)
   refine zxp hs [int kd,int pe,int nn,x,y] rfl _ ?_
   exact ret h
  refine qf (λe4=>absurd hi Qak) (λe4=>?_)
  refine qf (λe5=>absurd hi Qak) (λe5=>?_)
  refine qf (λe6=>?_) (λe6=>ret h)
  refine AWp.loop (σ:=Unit) ⟨λ_=>[(3,.bx 3 0),(5,.av (int nn))],λ_=>[(3,[int kd,int pe,int nn,x,y])],λ_ S2=>S2=S,λ_=>0⟩ zb ?_ ?_
  ·exact⟨(),Tv,rfl,⟨Tq,Tq,Tv⟩,⟨rfl,Tv⟩⟩
  rintro _ S2 rfl
  refine bcd (λc3=>?_) (λc3=>ret h)
  refine bcd (λc4=>absurd hi Qak) (λc4=>ret h)
end
theorem Qal{p:Prop}(h:p:=by rw[ho]):p:=h
theorem Qam{p:Prop}(h:p:=by rw[ho2,hg1];show Sp _ _;dsimp only;rw[oq,oe];exact h6):p:=h
theorem Qan{p:Prop}(h:p:=by rw[Fa8];omega):p:=h
structure One where
 q:Nat
 eb:Nat
 k:Nat
 p:Per
 w:Wld
 h:List Int
 vh:AV
def qk(room:Int)(s hb:Nat)(X:List One)(vp vm vT vW vS vl:AV)(m:List Nte)(log:List Frm)(T:List Int)(W:List Wld)(D:List Bool):List (Store->Prop):=
 [λa=>RowsQ 8 Vm a vm m,
  TokR 1 vT (rws zu T),
  TokR 8 vW (rws zk W),
  TokR 1 vS (rws qd D),
  TokR 3 vl (rws xe log),
  Sp (X.map λo=>TokR 1 o.vh (rws yu o.h)),
  kk hb (X.map λo=>o.vh),
  kk s [vp,vm,vT,.s (.slice (some ⟨hb,0,none⟩) X.length X.length),vW,vS,vl],
  TokR 1 vp (X.map λo=>[ptr o.q]),
  Sp (X.map λo=>kk o.q (zz o.p++[ptr o.eb])),
  Sp (X.map λo=>EngR o.eb room o.k o.w)]
theorem ya7{eb:Nat}{room:Int}{k:Nat}{w:Wld}{S:Store}(hE:EngR eb room k w S)(hp:playW w)(l:List Cmd)(hl:l=[]\/DoC)(hf:∀c∈l,c.fits)(hl2:l.length<=512)(hk:k<=100000000000000000)(R:Ja)
  (h:∀k' S',k'<=k+4096->EngR eb room k' (Lb w l) S'->R (.tup [lst 1 zu (Vk w l),int (Vl w)]) S'):Jb 47 [ptr eb,lst 10 yo l] S R:=by
 by_cases e:w.tick=1099511627776
 ·obtain⟨e1,e2,e3⟩:=lz e l
  have:=h k S (by omega) (e1.symm▸hE)
  rw[e2,e3]at this
  refine(ya6 hE e l (λr S'=>r=.tup [nil,int 10]/\S'=S) ⟨rfl,rfl⟩).post (Store.Le.refl _) ?_
  rintro r S' ⟨rfl,rfl⟩
  refine⟨_,_,λW T v hv=>?_,Store.Le.refl _,this⟩
  exact hv.tup2 (λx hx=>AV.le_nil 1 _ _ _ hx) λx hx=>hx
 ·obtain⟨e1,e2,e3⟩:=l4 e l
  rw[e1,e2,e3]at h
  have ht:=hp.1.1.1.1.1.2
  exact ya5 hE hp l hl hf hl2 (by omega) hk R λS' h1=>h (k+4096) S' (Fah _) h1
def Kp(w:Wld):Int:=Ce Iz (D8 w)
section
variable {room:Int} {s hb:Nat} {X:List One} {vp vm vT vW vS vl:AV} {m:List Nte} {log:List Frm} {T:List Int} {W:List Wld} {D:List Bool} {S:Store}
theorem Ba(h:Sp (qk room s hb X vp vm vT vW vS vl m log T W D) S):S.obj s=some (.cells [vp,vm,vT,.s (.slice (some ⟨hb,0,none⟩) X.length X.length),vW,vS,vl]):=(h.at 7 rfl).obj
theorem lg(h:Sp (qk room s hb X vp vm vT vW vS vl m log T W D) S):S.obj hb=some (.cells (X.map λo=>o.vh)):=(h.at 6 rfl).obj
theorem Fk(h:Sp (qk room s hb X vp vm vT vW vS vl m log T W D) S){i:Nat}(hi:i<X.length):S.obj X[i].q=some (.cells (zz X[i].p++[ptr X[i].eb])):=
 ((h.at 9 rfl).at (P:=kk X[i].q (zz X[i].p++[ptr X[i].eb])) i (by rw[Fam,Fab hi];rfl)).obj
theorem K6(h:Sp (qk room s hb X vp vm vT vW vS vl m log T W D) S)(hne:X≠[]):∃t,vp=.lst 1 (X.map λo=>[ptr o.q]) (some t):=by
 obtain⟨a,g,_,_,ht,_⟩:=h.at 8 rfl
 rcases ht with⟨e,_⟩|⟨_,t,e,_⟩
 ·exact absurd (Fcy.1 e) hne
 ·exact⟨t,e⟩
end
theorem Bh{α β:Type}(f:α->β){l:List α}{i:Nat}(hi:i<l.length):(l.map f)[i]?=some (f l[i]):=by rw[Fam,Fab hi];rfl
theorem map_set_same{α β:Type}(f:α->β){l:List α}{i:Nat}{x:α}(hi:i<l.length)(h:f x=f l[i]):(l.set i x).map f=l.map f:=by
 rw[Fcq,h]
 refine Fcn (by simp) λj h1 h2=>?_
 rw[Fcm]
 split
 ·rename_i e;subst e;simp
 ·rfl
theorem fy{l:List AV}{i:Nat}{v:AV}(h:i<l.length):zt l (0+i*1) [v]=l.set i v:=by
 rw[Fbm,Fdw]
 unfold zt
 rw[List.set_eq_take_append_cons_drop,if_pos h]
 simp
theorem Rf{x:Int}(h:0<=x/\x<=8388608):I62 x:=by unfold I62;omega
theorem zwz{w:Wld}(hm:zx w):Mm w:=by
 have hf:=Ds hm
 obtain⟨⟨⟨⟨h1,h2,h3⟩,⟨hg,hb,hu⟩,hbo⟩,hr,huu⟩,hc,hd⟩:=hm
 have hga:=qr hg
 refine⟨by unfold qg;omega,by unfold qg;omega,by unfold qg;omega,hg,⟨by have:=hb.1;omega,λb hbm=>?_⟩,by omega,λu hum=>?_⟩
 ·obtain⟨⟨a1,a2,a3,a4⟩,⟨b1,b2⟩,_⟩:=hb.2.2.1 b hbm
  have:=hg.1
  have:=hg.2.1
  unfold bu qg
  omega
 ·obtain⟨⟨a1,a2,a3⟩,⟨b1,b2,b3⟩,⟨c1,c2⟩,_⟩:=(huu u hum).1
  have hp:I62 u.pos.1/\I62 u.pos.2/\qg u.inn:=by
   by_cases h0:u.inn=0
   ·have:=Lt hg (hc u hum h0).1
    exact⟨Rf (by omega),Rf (by omega),by unfold qg;omega⟩
   ·obtain⟨x,hx,e1,_,_,_,e2,_⟩:=hd u hum h0
    rw[e2]
    have:=(huu x hx).1.1.1
    exact⟨Rf (by decide),Rf (by decide),by unfold qg;omega⟩
  unfold wt at b1 b2
  unfold Fu at a3
  refine⟨by unfold qg;omega,by unfold qg;omega,by unfold qg;omega,hp.1,hp.2.1,by unfold qg;omega,by unfold qg;omega,by unfold qg;omega,hp.2.2,by unfold qg;omega⟩
theorem lj{w:Wld}(h:playW w)(l:List Cmd):playW (Lb w l):=by
 by_cases e:w.tick=1099511627776
 ·rw[(lz e l).1];exact h
 ·rw[(l4 e l).1]
  have:=h.1.1.1.1.1.2
  exact zuz h (by omega) l
section
variable {room:Int} {s hb:Nat} {X:List One} {vp vm vT vW vS vl:AV} {m:List Nte} {log:List Frm} {T:List Int} {W:List Wld} {D:List Bool} {S:Store} {i:Nat} {o:One}
theorem lc(hi:i<X.length)(p:Per)(ho:o={X[i]with p:=p})(h:Sp ((qk room s hb X vp vm vT vW vS vl m log T W D).set 9 (Sp ((X.map λo=>kk o.q (zz o.p++[ptr o.eb])).set i (kk o.q (zz o.p++[ptr o.eb]))))) S):Sp (qk room s hb (X.set i o) vp vm vT vW vS vl m log T W D) S:=by
 unfold qk
 rw[map_set_same (λo=>o.vh) hi Qal,map_set_same (λo=>[ptr o.q]) hi Qal,map_set_same (λo=>TokR 1 o.vh (rws yu o.h)) hi Qal,map_set_same (λo=>EngR o.eb room o.k o.w) hi Qal,Fcq,Faw]
 exact h
theorem zuu(hi:i<X.length)(k:Nat)(w:Wld)(ho:o={X[i]with k:=k,w:=w})(h:Sp ((qk room s hb X vp vm vT vW vS vl m log T W D).set 10 (Sp ((X.map λo=>EngR o.eb room o.k o.w).set i (EngR o.eb room o.k o.w)))) S):Sp (qk room s hb (X.set i o) vp vm vT vW vS vl m log T W D) S:=by
 unfold qk
 rw[map_set_same (λo=>o.vh) hi Qal,map_set_same (λo=>[ptr o.q]) hi Qal,map_set_same (λo=>TokR 1 o.vh (rws yu o.h)) hi Qal,map_set_same (λo=>kk o.q (zz o.p++[ptr o.eb])) hi Qal,Fcq,Faw]
 exact h
theorem lf(hi:i<X.length)(l:List Int)(v:AV)(ho:o={X[i]with h:=l,vh:=v})(h:Sp (((qk room s hb X vp vm vT vW vS vl m log T W D).set 5 (Sp ((X.map λo=>TokR 1 o.vh (rws yu o.h)).set i (TokR 1 o.vh (rws yu o.h))))).set 6 (kk hb ((X.map λo=>o.vh).set i o.vh))) S):Sp (qk room s hb (X.set i o) vp vm vT vW vS vl m log T W D) S:=by
 unfold qk
 rw[map_set_same (λo=>[ptr o.q]) hi Qal,map_set_same (λo=>kk o.q (zz o.p++[ptr o.eb])) hi Qal,map_set_same (λo=>EngR o.eb room o.k o.w) hi Qal,Fcq,Fcq,Faw]
 exact h
end
def Nf(o:One):Prop:=wg o.p/\Dh o.p
noncomputable def wv(o:One):Wld:=Lb o.w (jc o.p)
theorem lh{room:Int}{s hb:Nat}{X:List One}{vp vm vT vW vS vl:AV}{m:List Nte}{log:List Frm}{T:List Int}{W:List Wld}{D:List Bool}{S:Store}(h:Sp (qk room s hb X vp vm vT vW vS vl m log T W D) S){i:Nat}(hi:i<X.length)
  (hf:X[i].p.fits) (hs:Gn X[i].p) (hnl:(jc X[i].p).length<=512) (hnf:∀c∈jc X[i].p,c.fits) (hdo:jc X[i].p=[]\/DoC) (hh:X[i].p.hashes.length<16) (hw:playW X[i].w) (hk:X[i].k<=100000000000000000) (hlog:log.length<=1000000) (hhl:X[i].h.length<=1000000) (hX:X.length<=8)
  (R:Ja) (hno:¬Nf X[i]->R (V.bool false) S)
  (hyes:Nf X[i]->∀(o:One) (vl2:AV) (S2:Store),o.q=X[i].q->o.eb=X[i].eb->o.k<=X[i].k+4096->o.p=qj X[i].p (Kp (wv X[i]))->o.w=wv X[i]->o.h=X[i].h++[Kp (wv X[i])]->
   Sp (qk room s hb (X.set i o) vp vm vT vW vS vl2 m (if i=0 then log++[⟨X[i].p.turn,jc X[i].p,Kp (wv X[i])⟩]else log) T W D) S2->R (V.bool true) S2):
  Jb 203 [ptr s,int (i:Nat)] S R:=by
 obtain⟨t,rfl⟩:=K6 h (λe=>by rw[e]at hi;exact absurd hi (Fa7 i))
 have h0:=Ba h
 have hq0:=Fk h hi
 refine Qa (c:=cfg 95) zb Tryz.func203 ?_
 refine Qat ?_
 refine⟨i,rfl,za _ (Bh _ hi) ?_⟩
 refine za (o:=S.obj X[i].q) _ hq0 ?_
 refine zt0 X[i].p hf hs (by omega) _ _ (λhb=>?_) (λhp hc=>?_) (λhp hc=>?_)
 ·exact ret (hno λhh=>hb hh.1)
 ·exact ret (hno λhh=>hc hh.2)
 have hrun:Nf X[i]:=⟨hp,hc⟩
 refine za (o:=S.obj X[i].q) _ hq0 ?_
 have hFE:=(h.at 10 rfl).at (P:=EngR X[i].eb room X[i].k X[i].w) i (Bh _ hi)
 refine hFE.call (xs:=[ptr X[i].eb,lst 10 yo (jc X[i].p)]) (T:=λr S'=>∃k',k'<=X[i].k+4096/\EngR X[i].eb room k' (wv X[i]) S') (λa ha=>ya7 ha hw _ hdo hnf hnl hk _ (λk' S' h1 h2=>⟨k',h1,h2⟩)) (λr a' ⟨k',hk',ha'⟩ S' hS'=>?_)
 -- the engine has stepped
 obtain⟨o1,ho1⟩:∃o1:One,o1={X[i]with k:=k',w:=wv X[i]}:=⟨_,rfl⟩
 have h2:Sp (qk room s hb (X.set i o1) (.lst 1 (X.map λo=>[ptr o.q]) (some t)) vm vT vW vS vl m log T W D) S':=by
  exact zuu hi k' (wv X[i]) ho1 (hS' (EngR o1.eb room o1.k o1.w) (by rw[ho1];exact ha'))
 have hi1:i<(X.set i o1).length:=by rw[Faw];exact hi
 have hg1:(X.set i o1)[i]=o1:=Fde ..
 have hst:∀o,(X.set i o1).set i o=X.set i o:=λo=>List.set_set ..
 have hxl:(X.set i o1).length=X.length:=Faw
 generalize X.set i o1=Y at*
 have hq1:=Fk h2 hi1
 rw[hg1]at hq1
 have oq:o1.q=X[i].q:=by rw[ho1]
 have op:o1.p=X[i].p:=by rw[ho1]
 have oe:o1.eb=X[i].eb:=by rw[ho1]
 have ow:o1.w=wv X[i]:=by rw[ho1]
 have oh:o1.h=X[i].h:=by rw[ho1]
 have ok:o1.k<=X[i].k+4096:=by rw[ho1];exact hk'
 have ov:o1.vh=X[i].vh:=by rw[ho1]
 rw[oq,op,oe]at hq1
 have hwp:playW (wv X[i]):=lj hw _
 refine za (o:=S'.obj X[i].q) _ hq1 ?_
 refine((h2.at 10 rfl).at (P:=EngR o1.eb room o1.k o1.w) i (by rw[Bh _ hi1,hg1])).look (xs:=[ptr X[i].eb]) (.agg (zk (wv X[i]))) (λa ha T hT=>by rw[oe,ow]at ha;exact p4 ha hwp.sizes T hT) ?_
 refine zx0 (wv X[i]) (zwz hwp.1) _ _ ?_
 have esum:Ce Iz (D8 (wv X[i]))=Kp (wv X[i]):=rfl
 rw[esum]
 generalize Kp (wv X[i])=hash at*
 have hs1:=Ba h2
 refine qf (λc1=>?_) (λc1=>?_)
 ·have hi0:i=0:=by omega
  refine Qc zb zr6 ?_
  refine Qat ?_
  refine za (o:=S'.obj X[i].q) _ hq1 ?_
  refine⟨by decide,?_⟩
  refine⟨(h2.at 4 rfl).app (ie:=ti71) rfl rfl (rows:=[xe ⟨X[i].p.turn,jc X[i].p,hash⟩]) rfl (by simp) ?_ (λb S3 h3=>⟨Tv,?_⟩),Tv⟩
  ·simp only[Fad,zh,Fbc]
   show(log.length+1)*40<=_/\log.length+1<=_
   omega
  have hos:=(h3.at 7 rfl).obj
  refine⟨?_,Tv⟩
  refine za _ rfl (qy rfl (qw (v:=.lst 3 (rws xe log++[xe ⟨X[i].p.turn,jc X[i].p,hash⟩]) (some b)) rfl rfl rfl rfl ?_))
  refine yn (i:=ti56) (v:=.lst 3 (rws xe log++[xe ⟨X[i].p.turn,jc X[i].p,hash⟩]) (some b)) (b:=s) (o:=6) rfl rfl rfl hos (show 6+1<=7 by decide) rfl ?_
  refine⟨Tv,?_⟩
  have h4:=(h3.at 7 rfl).store [.lst 1 (X.map λo=>[ptr o.q]) (some t),vm,vT,.s (.slice (some ⟨hb,0,none⟩) Y.length Y.length),vW,vS,.lst 3 (rws xe log++[xe ⟨X[i].p.turn,jc X[i].p,hash⟩]) (some b)]
  have h5:Sp (qk room s hb Y (.lst 1 (X.map λo=>[ptr o.q]) (some t)) vm vT vW vS (.lst 3 (rws xe log++[xe ⟨X[i].p.turn,jc X[i].p,hash⟩]) (some b)) m (if i=0 then log++[⟨X[i].p.turn,jc X[i].p,hash⟩]else log) T W D) (S3.sO s (.cells (zt [.lst 1 (X.map λo=>[ptr o.q]) (some t),vm,vT,.s (.slice (some ⟨hb,0,none⟩) Y.length Y.length),vW,vS,vl] 6 [.lst 3 (rws xe log++[xe ⟨X[i].p.turn,jc X[i].p,hash⟩]) (some b)]))):=by
   rw[if_pos hi0]
   have e:rws xe (log++[⟨X[i].p.turn,jc X[i].p,hash⟩])=rws xe log++[xe ⟨X[i].p.turn,jc X[i].p,hash⟩]:=Fa3
   unfold qk
   rw[e]
   exact h4
  generalize Store.sO S3 s (.cells (zt [.lst 1 (X.map λo=>[ptr o.q]) (some t),vm,vT,.s (.slice (some ⟨hb,0,none⟩) Y.length Y.length),vW,vS,vl] 6 [.lst 3 (rws xe log++[xe ⟨X[i].p.turn,jc X[i].p,hash⟩]) (some b)]))=S4 at*
  generalize AV.lst 3 (rws xe log++[xe ⟨X[i].p.turn,jc X[i].p,hash⟩]) (some b)=vl2 at*
  have hq5:=Fk h5 hi1
  rw[hg1,oq,op,oe]at hq5
  refine za (o:=S4.obj X[i].q) _ hq5 ?_
  refine iv X[i].p hash hf hs hp hc hh _ _ ?_
  refine ku (i:=ti139) (v:=.agg (zz (qj X[i].p hash))) (xs:=zz (qj X[i].p hash)) (b:=X[i].q) (o:=0) (l:=zz X[i].p++[ptr X[i].eb]) rfl rfl rfl hq5 (show 0+11<=12 by decide) ?_
  have h6:=((h5.at 9 rfl).at (P:=kk X[i].q (zz X[i].p++[ptr X[i].eb])) i (by rw[Bh _ hi1,hg1,oq,op,oe])).store (zz (qj X[i].p hash)++[ptr X[i].eb])
  have esp:zt (zz X[i].p++[ptr X[i].eb]) 0 (zz (qj X[i].p hash))=zz (qj X[i].p hash)++[ptr X[i].eb]:=rfl
  rw[esp]
  generalize S4.sO X[i].q (.cells (zz (qj X[i].p hash)++[ptr X[i].eb]))=S5 at*
  obtain⟨o2,ho2⟩:∃o2:One,o2={Y[i]with p:=qj X[i].p hash}:=⟨_,rfl⟩
  have h7:=lc (o:=o2) hi1 (qj X[i].p hash) ho2 Qam
  have hi2:i<(Y.set i o2).length:=by rw[Faw];exact hi1
  have hg2:(Y.set i o2)[i]=o2:=Fde ..
  have hst2:∀o,(Y.set i o2).set i o=X.set i o:=λo=>(List.set_set ..).trans (hst o)
  have hxl2:(Y.set i o2).length=X.length:=Faw.trans hxl
  have o2h:o2.h=X[i].h:=by rw[ho2,hg1];exact oh
  have o2v:o2.vh=X[i].vh:=by rw[ho2,hg1];exact ov
  generalize Y.set i o2=Y2 at*
  have hs7:=Ba h7
  have hb7:=lg h7
  refine Qc zb gr ?_
  refine Qat ?_
  refine Qat ?_
  have hv:((Y2.map λo=>o.vh).drop (0+i*1)).head?=some X[i].vh:=by
   rw[Fbm,Fdw,Fb3,Bh _ hi2,hg2,o2v]
  refine⟨i,rfl,by omega,?_⟩
  refine Qat ?_
  refine za _ hv ?_
  refine⟨by decide,?_⟩
  refine⟨((h7.at 5 rfl).at (P:=TokR 1 X[i].vh (rws yu X[i].h)) i (by rw[Bh _ hi2,hg2,o2h,o2v])).app (ie:=ti12) rfl rfl (rows:=[yu hash]) rfl (by simp) ?_ (λb S6 h8=>⟨?_,?_⟩),Tv⟩
  ·simp only[Fad,zh,Fbc]
   show(X[i].h.length+1)*8<=_/\X[i].h.length+1<=_
   omega
  ·have hs8:=(h8.at 7 rfl).obj
   repeat(first|exact Tv|refine⟨rfl,?_⟩|refine⟨za (o:=S6.obj s) _ hs8 rfl,?_⟩)
  have hb8:=(h8.at 6 rfl).obj
  refine⟨i,rfl,by omega,?_⟩
  refine⟨?_,Tv⟩
  refine za _ rfl (qy rfl (qw (v:=.lst 1 (rws yu X[i].h++[yu hash]) (some b)) rfl rfl rfl rfl ?_))
  refine yn (i:=ti61) (v:=.lst 1 (rws yu X[i].h++[yu hash]) (some b)) (b:=hb) (o:=0+i*1) (l:=Y2.map λo=>o.vh) rfl rfl rfl hb8 Qan rfl ?_
  refine⟨Tv,?_⟩
  rw[fy Qan]
  have h9:=(h8.at 6 rfl).store ((Y2.map λo=>o.vh).set i (.lst 1 (rws yu X[i].h++[yu hash]) (some b)))
  obtain⟨o3,ho3⟩:∃o3:One,o3={Y2[i]with h:=X[i].h++[hash],vh:=.lst 1 (rws yu X[i].h++[yu hash]) (some b)}:=⟨_,rfl⟩
  have e3:rws yu (X[i].h++[hash])=rws yu X[i].h++[yu hash]:=Fa3
  have h10:=lf (o:=o3) hi2 _ _ ho3 (by rw[ho3];dsimp only;rw[e3];exact h9)
  rw[hst2]at h10
  refine ret (hyes hrun o3 _ _ ?_ ?_ ?_ ?_ ?_ ?_ h10)
  all_goals rw[ho3,hg2]
  ·rw[ho2,hg1];exact oq
  ·rw[ho2,hg1];exact oe
  ·rw[ho2,hg1];exact ok
  ·rw[ho2]
  ·rw[ho2,hg1];exact ow
 ·have h5:Sp (qk room s hb Y (.lst 1 (X.map λo=>[ptr o.q]) (some t)) vm vT vW vS vl m (if i=0 then log++[⟨X[i].p.turn,jc X[i].p,hash⟩]else log) T W D) S':=by
   rw[if_neg (by omega)]
   exact h2
  generalize S'=S4 at*
  have hq5:=Fk h5 hi1
  rw[hg1,oq,op,oe]at hq5
  refine za (o:=S4.obj X[i].q) _ hq5 ?_
  refine iv X[i].p hash hf hs hp hc hh _ _ ?_
  refine ku (i:=ti139) (v:=.agg (zz (qj X[i].p hash))) (xs:=zz (qj X[i].p hash)) (b:=X[i].q) (o:=0) (l:=zz X[i].p++[ptr X[i].eb]) rfl rfl rfl hq5 (show 0+11<=12 by decide) ?_
  have h6:=((h5.at 9 rfl).at (P:=kk X[i].q (zz X[i].p++[ptr X[i].eb])) i (by rw[Bh _ hi1,hg1,oq,op,oe])).store (zz (qj X[i].p hash)++[ptr X[i].eb])
  have esp:zt (zz X[i].p++[ptr X[i].eb]) 0 (zz (qj X[i].p hash))=zz (qj X[i].p hash)++[ptr X[i].eb]:=rfl
  rw[esp]
  generalize S4.sO X[i].q (.cells (zz (qj X[i].p hash)++[ptr X[i].eb]))=S5 at*
  obtain⟨o2,ho2⟩:∃o2:One,o2={Y[i]with p:=qj X[i].p hash}:=⟨_,rfl⟩
  have h7:=lc (o:=o2) hi1 (qj X[i].p hash) ho2 Qam
  have hi2:i<(Y.set i o2).length:=by rw[Faw];exact hi1
  have hg2:(Y.set i o2)[i]=o2:=Fde ..
  have hst2:∀o,(Y.set i o2).set i o=X.set i o:=λo=>(List.set_set ..).trans (hst o)
  have hxl2:(Y.set i o2).length=X.length:=Faw.trans hxl
  have o2h:o2.h=X[i].h:=by rw[ho2,hg1];exact oh
  have o2v:o2.vh=X[i].vh:=by rw[ho2,hg1];exact ov
  generalize Y.set i o2=Y2 at*
  have hs7:=Ba h7
  have hb7:=lg h7
  refine Qc zb gr ?_
  refine Qat ?_
  refine Qat ?_
  have hv:((Y2.map λo=>o.vh).drop (0+i*1)).head?=some X[i].vh:=by
   rw[Fbm,Fdw,Fb3,Bh _ hi2,hg2,o2v]
  refine⟨i,rfl,by omega,?_⟩
  refine Qat ?_
  refine za _ hv ?_
  refine⟨by decide,?_⟩
  refine⟨((h7.at 5 rfl).at (P:=TokR 1 X[i].vh (rws yu X[i].h)) i (by rw[Bh _ hi2,hg2,o2h,o2v])).app (ie:=ti12) rfl rfl (rows:=[yu hash]) rfl (by simp) ?_ (λb S6 h8=>⟨?_,?_⟩),Tv⟩
  ·simp only[Fad,zh,Fbc]
   show(X[i].h.length+1)*8<=_/\X[i].h.length+1<=_
   omega
  ·have hs8:=(h8.at 7 rfl).obj
   repeat(first|exact Tv|refine⟨rfl,?_⟩|refine⟨za (o:=S6.obj s) _ hs8 rfl,?_⟩)
  have hb8:=(h8.at 6 rfl).obj
  refine⟨i,rfl,by omega,?_⟩
  refine⟨?_,Tv⟩
  refine za _ rfl (qy rfl (qw (v:=.lst 1 (rws yu X[i].h++[yu hash]) (some b)) rfl rfl rfl rfl ?_))
  refine yn (i:=ti61) (v:=.lst 1 (rws yu X[i].h++[yu hash]) (some b)) (b:=hb) (o:=0+i*1) (l:=Y2.map λo=>o.vh) rfl rfl rfl hb8 Qan rfl ?_
  refine⟨Tv,?_⟩
  rw[fy Qan]
  have h9:=(h8.at 6 rfl).store ((Y2.map λo=>o.vh).set i (.lst 1 (rws yu X[i].h++[yu hash]) (some b)))
  obtain⟨o3,ho3⟩:∃o3:One,o3={Y2[i]with h:=X[i].h++[hash],vh:=.lst 1 (rws yu X[i].h++[yu hash]) (some b)}:=⟨_,rfl⟩
  have e3:rws yu (X[i].h++[hash])=rws yu X[i].h++[yu hash]:=Fa3
  have h10:=lf (o:=o3) hi2 _ _ ho3 (by rw[ho3];dsimp only;rw[e3];exact h9)
  rw[hst2]at h10
  refine ret (hyes hrun o3 _ _ ?_ ?_ ?_ ?_ ?_ ?_ h10)
  all_goals rw[ho3,hg2]
  ·rw[ho2,hg1];exact oq
  ·rw[ho2,hg1];exact oe
  ·rw[ho2,hg1];exact ok
  ·rw[ho2]
  ·rw[ho2,hg1];exact ow
theorem l6{id n d:Int}(hn:1<=n/\n<=8)(hid:1<=id/\id<=n):wg (qs id n d)↔1<=d/\d<=8:=by
 refine⟨λh=>h.1.2.2.1,λhd=>?_⟩
 have hl:0<(List.replicate n.toNat (d-1)).length:=by rw[Fao];omega
 have h1:=List.eq_of_mem_replicate (mr hl)
 have h2:=List.eq_of_mem_replicate (zxe hl)
 have hc:countsP (qs id n d) (List.replicate n.toNat (d-1)):=by
  refine⟨λj hj=>?_,?_,λh=>?_⟩
  ·rw[Fbz]
   show d-1<=d-1/\d-1<=0+16/\d-1<=maxT
   unfold maxT
   omega
  ·rw[Fao]
   show _=n
   omega
  ·rw[Fbz];rfl
 have e:qs id n d=⟨id,n,d,0,d-1,[],[],List.replicate n.toNat (d-1),List.replicate n.toNat (d-1),[],false⟩:=by
  unfold qs
  rw[if_pos hn]
 rw[e]at hc⊢
 unfold maxT at*
 refine⟨⟨hn,hid,hd,Fcc 0,(show(0:Int)<=1099511627776 by decide)⟩,⟨Fcc _,?_,?_⟩,hc,hc,?_,?_,(show(0:Nat)<=16 by decide),(show((0:Nat):Int)<=0 by decide),⟨?_,λj hj=>absurd hj (Fa7 j)⟩,?_,λj hj=>absurd hj (Fa7 j)⟩
 ·show d-1<=0+d-1
  omega
 ·show d-1<=1099511627776
  omega
 ·show(0:Int)-1<=Af (List.replicate n.toNat (d-1))
  omega
 ·show Cz (List.replicate n.toNat (d-1))<=d-1
  omega
 ·show((0:Nat):Int)=d-1-Af (List.replicate n.toNat (d-1))
  omega
 ·exact λj hj=>absurd hj (Fa7 j)
def mkP(room:Int)(s:Nat)(X:List One)(vp:AV):List (Store->Prop):=
 [kk s [vp,nil,nil,nil,nil,nil,nil],TokR 1 vp (X.map λo=>[ptr o.q]),Sp (X.map λo=>kk o.q (zz o.p++[ptr o.eb])),Sp (X.map λo=>EngR o.eb room o.k o.w)]
def N8(g:Gnd)(n d:Int)(i:Nat)(o:One):Prop:=o.p=qs ((i+1:Nat):Int) n d/\o.w=j9 g n/\o.h=[]/\o.k=0/\o.vh=.s (.slice none 0 0)
theorem fo(g:Gnd)(hg:g.fits)(hT:g.T.length<=1000000)(n d room:Int)(hn:zy n)(hd:-1000000<=d/\d<=1000000)(hr:1<=room/\room<=4096)(rows:List (List AV))(hl:rows.length<=400)(hr5:∀row∈rows,∃(x1 x2 x3 x4:Int) (y:AV),row=[int x1,int x2,int x3,int x4,y]/\(y=nil\/∃l,y=lst 10 yo l))
  (Inv:Nat->List One->AV->List Nte->List Frm->Prop) (hI0:∀X:List One,qx g n->(1<=d/\d<=8)->(X.length:Int)=n->(∀i,(hi:i<X.length)->N8 g n d i X[i])->Inv 0 X nil [] [])
  (hIw:∀i X vm m log,Inv i X vm m log->(X.length:Int)=n/\(∀o∈X,playW o.w)/\log.length<=1000000)
  (hact:∀i,(hi:i<rows.length)->∀s hb X vp vm vl m log S,Inv i X vm m log->Sp (qk room s hb X vp vm nil nil nil vl m log [] [] []) S->
   Jb 60 [ptr s,.agg rows[i]] S λr S'=>r=.tup []/\∃X' vp' vm' vl' m' log',Inv (i+1) X' vm' m' log'/\Sp (qk room s hb X' vp' vm' nil nil nil vl' m' log' [] [] []) S'):
  Jb 27 [.agg (zn g),int n,int d,int room,.lst 5 rows none] Store.empty λr _=>(¬(qx g n/\1<=d/\d<=8)/\r=.tup [.agg [nil,nil,nil,nil,nil],int 1])∨
   ((qx g n/\1<=d/\d<=8)/\∃X vm m log hb,Inv rows.length X vm m log/\r=.tup [.agg [yg (X.map λo=>o.p.turn),.s (.slice (some ⟨hb,0,none⟩) X.length X.length),lst 8 zk (X.map λo=>o.w),lst 1 qd (X.map λo=>o.p.split),lst 3 xe log],int 0]):=by
 refine Qa (c:=cfg 156 [39,73] []) zb Tryz.func27 ?_
 refine Ml g hg (by omega) n hn _ _ (λhb=>?_) (λhp=>?_)
 ·exact ret (.inl ⟨λhh=>hb hh.1,rfl⟩)
 refine bcd (λc1=>?_) (λc1=>?_)
 ·exact absurd c1 (by omega)
 intro s hs
 have hw:=Va hp
 have hper:∀k:Nat,((k+1:Nat):Int)<=n->(wg (qs ((k+1:Nat):Int) n d)↔1<=d/\d<=8):=λk hk=>l6 hp.2 ⟨by omega,hk⟩
 refine AWp.loop (σ:=List One×AV) ⟨λx=>[(1,.av (int n)),(2,.av (int d)),(3,.av (int room)),(4,.av (.lst 5 rows none)),(10,.bx 10 0),(11,.av (int 0)),(12,.bx 12 0),(14,.av (ptr s)),(15,.av (int ((x.1.length+1:Nat):Int)))],
  λ_=>[(10,[nil,nil,nil,nil,nil]),(12,zk (j9 g n))],λx S=>Sp (mkP room s x.1 x.2) S/\(x.1.length:Int)<=n/\(x.1≠[]->1<=d/\d<=8)/\∀i,(hi:i<x.1.length)->N8 g n d i x.1[i],λx=>n.toNat-x.1.length⟩ zb ?_ ?_
 ·refine⟨([],nil),Tv,⟨?_,?_,λh=>absurd rfl h,λi hi=>absurd hi (Fa7 i)⟩,Qao,⟨rfl,rfl,Tv⟩⟩
  ·refine⟨_,Store.empty,(Ax _).symm,λi _ h2=>h2.elim (λh=>h rfl) (λh=>h rfl),rfl,?_⟩
   exact⟨Store.empty,Store.empty,rfl,L5 _,TokR.nil 1,⟨Store.empty,Store.empty,rfl,L5 _,rfl,⟨Store.empty,Store.empty,rfl,L5 _,rfl,rfl⟩⟩⟩
  ·have:=hp.2.1
   show(0:Int)<=n
   omega
 rintro⟨X,vp⟩ S ⟨hP,hqn,hqd,hnew⟩
 dsimp only at hP hqn hqd hnew⊢
 refine bcd (λc2=>?_) (λc2=>?_)
 ·have hlen:(X.length+1:Int)<=n:=by omega
  have hpk:=hper X.length (by omega)
  refine li _ n d hd _ _ (λhb=>?_) (λhper1=>?_)
  ·refine cw hw hr _ (λeb E hE hdE=>?_)
   exact ret (.inl ⟨λhh=>hb (hpk.2 hh.2),rfl⟩)
  refine cw hw hr _ (λeb E hE hdE=>?_)
  have hP1:=(hP.at 3 rfl).last hE hdE
  have hs1:=(hP1.at 0 rfl).obj
  refine Qc zb zrl ?_
  refine za (o:=(E.un S).obj s) _ hs1 ?_
  refine⟨λq hq=>?_,Tv⟩
  have hP2:=(hP1.at 2 rfl).box hq (zz (qs ((X.length+1:Nat):Int) n d)++[ptr eb])
  have hs2:=(hP2.at 0 rfl).obj
  refine⟨(by repeat(first|exact Tv|refine⟨rfl,?_⟩|refine⟨za (o:=Store.obj _ _) _ hs2 rfl,?_⟩)),?_⟩
  refine⟨by decide,?_⟩
  refine⟨(hP2.at 1 rfl).app (ie:=ti143) rfl rfl (rows:=[[ptr q]]) rfl (by simp) ?_ (λb S3 hP3=>⟨Tv,?_⟩),Tv⟩
  ·have hn8:=hp.2.2
   rw[Fad,Fa8]
   show(X.length+1)*8<=_/\X.length+1<=_
   omega
  have hs3:=(hP3.at 0 rfl).obj
  refine⟨?_,Tv⟩
  refine za _ rfl (qy rfl (qw (v:=.lst 1 (X.map (λo=>[ptr o.q])++[[ptr q]]) (some b)) rfl rfl rfl rfl ?_))
  refine yn (i:=ti134) (v:=.lst 1 (X.map (λo=>[ptr o.q])++[[ptr q]]) (some b)) (b:=s) (o:=0) rfl rfl rfl hs3 (show 0+1<=7 by decide) rfl ?_
  have hP4:=(hP3.at 0 rfl).store [.lst 1 (X.map (λo=>[ptr o.q])++[[ptr q]]) (some b),nil,nil,nil,nil,nil,nil]
  refine⟨Tv,?_⟩
  refine ze (by have:=hp.2.2;omega) ?_
  let o:One:=⟨q,eb,0,qs ((X.length+1:Nat):Int) n d,j9 g n,[],.s (.slice none 0 0)⟩
  refine⟨(X++[o],.lst 1 (X.map (λo=>[ptr o.q])++[[ptr q]]) (some b)),?_,⟨?_,?_,λ_=>hpk.1 hper1,λi hi=>?_⟩,⟨Tq,Tq,Tq,Tq,Tq,Tq,Tq,Tq,?_,Tv⟩,⟨rfl,rfl,Tv⟩⟩
  ·show n.toNat-(X++[o]).length<n.toNat-X.length
   rw[Fad]
   show _-(_+1)<_
   omega
  ·dsimp only
   unfold mkP
   rw[Fa3,Fa3,Fa3]
   exact hP4
  ·show(((X++[o]).length:Nat):Int)<=n
   rw[Fad]
   exact hlen
  ·dsimp only at hi⊢
   by_cases hlt:i<X.length
   ·rw[Fbg hlt]
    exact hnew i hlt
   ·have:i=X.length:=by simp at hi;omega
    subst this
    simp only[Fcv (Fah _),Nat.sub_self,Fc3]
    exact⟨rfl,rfl,rfl,rfl,rfl⟩
  ·show LV.le (.av (int (((X.length+1:Nat):Int)+1))) (.av (int (((X++[o]).length+1:Nat):Int)))
   rw[Fad]
   exact Tq
 have hnq:n=(X.length:Int):=by omega
 subst hnq
 have hX0:X≠[]:=λe=>by
  have:=hp.2.1
  rw[e]at this
  exact absurd this (by decide)
 have hX8:X.length<=8:=by have:=hp.2.2;omega
 have hd8:=hqd hX0
 refine Ga rfl (it:=ti78) (ie:=ti61) rfl rfl rfl rfl rfl (n:=X.length) (by show 24*X.length<=_;omega) (by omega) (λhb hhb=>?_)
 have hP1:=hP.new hhb (List.replicate X.length (.s (.slice none 0 0)))
 have hs1:=(hP1.at 1 rfl).obj
 refine yn (i:=ti78) (v:=.s (.slice (some ⟨hb,0,none⟩) X.length X.length)) (b:=s) (o:=3) rfl rfl rfl hs1 (show 3+1<=7 by decide) rfl ?_
 have hP2:=(hP1.at 1 rfl).store [vp,nil,nil,.s (.slice (some ⟨hb,0,none⟩) X.length X.length),nil,nil,nil]
 have hI:=hI0 X hp hd8 rfl hnew
 have hvh:List.replicate X.length (AV.s (.slice none 0 0))=X.map λo=>o.vh:=by
  refine Fcn (by simp) λj h1 h2=>?_
  have hj:j<X.length:=by simpa using h2
  rw[Fbz,Fb9]
  exact(hnew j hj).2.2.2.2.symm
 have hP3:Sp (qk room s hb X vp nil nil nil nil nil [] [] [] [] []) (((S.sO hb (.cells (List.replicate X.length (.s (.slice none 0 0)))))).sO s (.cells [vp,nil,nil,.s (.slice (some ⟨hb,0,none⟩) X.length X.length),nil,nil,nil])):=by
  have hq:∀{α:Type} (k:Nat) (f:α->List AV),RowsQ k f Store.empty nil []:=λk f=>.inl (.inl ⟨rfl,rfl⟩)
  unfold qk
  rw[<-hvh]
  refine Sp.none (hq 8 Vm) (Sp.none (TokR.nil 1) (Sp.none (TokR.nil 8) (Sp.none (TokR.nil 1) (Sp.none (TokR.nil 3) (Sp.none (Sp.allE λP hP=>?_) hP2)))))
  obtain⟨o,ho,rfl⟩:=Fae.1 hP
  obtain⟨j,hj,rfl⟩:=Faj ho
  obtain⟨_,_,e1,_,e2⟩:=hnew j hj
  rw[e1,e2]
  exact TokR.nil 1
 refine AWp.loop (σ:=Nat×List One×(AV×AV×AV)×List Nte×List Frm) ⟨λx=>[(10,.bx 10 0),(14,.av (ptr s)),(84,.av (.lst 5 rows none)),(85,.av (int (rows.length:Nat))),(86,.av (int (x.1:Nat)))],λ_=>[(10,[nil,nil,nil,nil,nil])],
  λx S'=>x.1<=rows.length/\Inv x.1 x.2.1 x.2.2.1.2.1 x.2.2.2.1 x.2.2.2.2/\Sp (qk room s hb x.2.1 x.2.2.1.1 x.2.2.1.2.1 nil nil nil x.2.2.1.2.2 x.2.2.2.1 x.2.2.2.2 [] [] []) S',λx=>rows.length-x.1⟩ zb ?_ ?_
 ·exact⟨(0,X,(vp,nil,nil),[],[]),Tv,⟨Faf _,hI,hP3⟩,Qao,⟨rfl,Tv⟩⟩
 clear hI hP3 hnew hqn hqd
 rintro⟨i,X,⟨vp,vm,vl⟩,m,log⟩ S' ⟨hi,hI,hP⟩
 dsimp only at hi hI hP⊢
 refine bcd (λc3=>?_) (λc3=>?_)
 ·have hlt:i<rows.length:=by omega
  refine⟨i,rfl,za _ (Fab hlt) ?_⟩
  have ha:=hact i hlt s hb X vp vm vl m log S' hI hP
  obtain⟨x1,x2,x3,x4,y,er,hy⟩:=hr5 _ (Faa hlt)
  rw[er]at ha⊢
  rcases hy with rfl|⟨l,rfl⟩
  all_goals
   refine ha.imp ?_
   rintro r S3 ⟨rfl,X',vp',vm',vl',m',log',hI',hP'⟩
   refine Qd ?_
   exact⟨(i+1,X',(vp',vm',vl'),m',log'),(show rows.length-(i+1)<rows.length-i by omega),⟨hlt,hI',hP'⟩,Qao,⟨rfl,Tv⟩⟩
 have hil:i=rows.length:=by omega
 subst hil
 obtain⟨hXl,hXw,hlg⟩:=hIw _ _ _ _ _ hI
 have hX1:X≠[]:=λe=>by rw[e]at hXl;simp at hXl;have:=List.length_pos_iff.2 hX0;omega
 have hX18:X.length<=8:=by omega
 obtain⟨t,rfl⟩:=K6 hP hX1
 refine za (o:=S'.obj s) _ (Ba hP) ?_
 refine AWp.loop (σ:=Nat×AV×AV×AV) ⟨λx=>[(10,.bx 10 0),(14,.av (ptr s)),(97,.av (.lst 1 (X.map λo=>[ptr o.q]) (some t))),(98,.av (int (X.length:Nat))),(99,.av (int (x.1:Nat)))],λ_=>[(10,[nil,nil,nil,nil,nil])],
  λx S2=>x.1<=X.length/\Sp (qk room s hb X (.lst 1 (X.map λo=>[ptr o.q]) (some t)) vm x.2.1 x.2.2.1 x.2.2.2 vl m log ((X.take x.1).map λo=>o.p.turn) ((X.take x.1).map λo=>o.w) ((X.take x.1).map λo=>o.p.split)) S2,λx=>X.length-x.1⟩ zb ?_ ?_
 ·refine⟨(0,nil,nil,nil),Tv,⟨Faf _,hP⟩,⟨Tq,Tq,Tq,?_,Tq,Tv⟩,⟨rfl,Tv⟩⟩
  rw[<-Fa8 (f:=λo:One=>[ptr o.q])]
  exact Tq
 clear hP
 rintro⟨j,vT,vW,vS⟩ S3 ⟨hj,hP⟩
 dsimp only at hj hP⊢
 refine bcd (λc4=>?_) (λc4=>?_)
 ·have hlt:j<X.length:=by omega
  refine⟨j,rfl,za _ (Bh _ hlt) ?_⟩
  have tk:∀{α:Type} (f:One->α),(X.take (j+1)).map f=(X.take j).map f++[f X[j]]:=λf=>by rw[Fac hlt,Fa3];rfl
  have hq3:=Fk hP hlt
  refine Qc zb zrk ?_
  refine za (o:=S3.obj s) _ (Ba hP) ?_
  refine za (o:=S3.obj X[j].q) _ hq3 ?_
  refine⟨by decide,?_⟩
  refine⟨(hP.at 1 rfl).app (ie:=ti2) rfl rfl (rows:=[zu X[j].p.turn]) rfl (by simp) ?_ (λb1 S11 hQ1=>⟨Tv,?_⟩),Tv⟩
  ·simp only[Fad,zh,Fbc,Fa8,Fal]
   show(min j X.length+1)*8<=_/\min j X.length+1<=_
   omega
  have hs1:=(hQ1.at 7 rfl).obj
  refine⟨?_,Tv⟩
  refine za _ rfl (qy rfl (qw (v:=.lst 1 (rws zu ((X.take j).map λo=>o.p.turn)++[zu X[j].p.turn]) (some b1)) rfl rfl rfl rfl ?_))
  refine yn (i:=ti29) (v:=.lst 1 (rws zu ((X.take j).map λo=>o.p.turn)++[zu X[j].p.turn]) (some b1)) (b:=s) (o:=2) rfl rfl rfl hs1 (show 2+1<=7 by decide) rfl ?_
  refine⟨Tv,?_⟩
  have hR1:=(hQ1.at 7 rfl).store [(.lst 1 (X.map λo=>[ptr o.q]) (some t)),vm,(.lst 1 (rws zu ((X.take j).map λo=>o.p.turn)++[zu X[j].p.turn]) (some b1)),.s (.slice (some ⟨hb,0,none⟩) X.length X.length),vW,vS,vl]
  have hP5:Sp (qk room s hb X (.lst 1 (X.map λo=>[ptr o.q]) (some t)) vm (.lst 1 (rws zu ((X.take j).map λo=>o.p.turn)++[zu X[j].p.turn]) (some b1)) vW vS vl m log ((X.take (j+1)).map λo=>o.p.turn) ((X.take j).map λo=>o.w) ((X.take j).map λo=>o.p.split)) (S11.sO s (.cells (zt [(.lst 1 (X.map λo=>[ptr o.q]) (some t)),vm,vT,.s (.slice (some ⟨hb,0,none⟩) X.length X.length),vW,vS,vl] 2 [.lst 1 (rws zu ((X.take j).map λo=>o.p.turn)++[zu X[j].p.turn]) (some b1)]))):=by
   rw[tk (λo=>o.p.turn)]
   unfold qk
   rw[show rws zu ((X.take j).map (λo=>o.p.turn)++[X[j].p.turn])=rws zu ((X.take j).map λo=>o.p.turn)++[zu X[j].p.turn]from Fa3]
   exact hR1
  generalize S11.sO s (.cells (zt [(.lst 1 (X.map λo=>[ptr o.q]) (some t)),vm,vT,.s (.slice (some ⟨hb,0,none⟩) X.length X.length),vW,vS,vl] 2 [.lst 1 (rws zu ((X.take j).map λo=>o.p.turn)++[zu X[j].p.turn]) (some b1)]))=S6 at*
  generalize hvT:AV.lst 1 (rws zu ((X.take j).map λo=>o.p.turn)++[zu X[j].p.turn]) (some b1)=uT at*
  have hs5:=Ba hP5
  have hq5:=Fk hP5 hlt
  have hwj:=hXw X[j] (Faa hlt)
  refine Qc zb zrj ?_
  refine Qat ?_
  refine za (o:=S6.obj X[j].q) _ hq5 ?_
  refine⟨((hP5.at 10 rfl).at (P:=EngR X[j].eb room X[j].k X[j].w) j (Bh _ hlt)).look (xs:=[ptr X[j].eb]) (.agg (zk X[j].w)) (λa ha T hT=>p4 ha hwj.sizes T hT) ⟨(by repeat(first|exact Tv|refine⟨rfl,?_⟩|refine⟨za (o:=Store.obj _ _) _ hs5 rfl,?_⟩)),?_⟩,Tv⟩
  refine⟨by decide,?_⟩
  refine⟨(hP5.at 2 rfl).app (ie:=ti27) rfl rfl (rows:=[zk X[j].w]) rfl (by simp) ?_ (λb2 S12 hQ2=>⟨Tv,?_⟩),Tv⟩
  ·simp only[Fad,zh,Fbc,Fa8,Fal]
   show(min j X.length+1)*112<=_/\min j X.length+1<=_
   omega
  have hs2:=(hQ2.at 7 rfl).obj
  refine⟨?_,Tv⟩
  refine za _ rfl (qy rfl (qw (v:=.lst 8 (rws zk ((X.take j).map λo=>o.w)++[zk X[j].w]) (some b2)) rfl rfl rfl rfl ?_))
  refine yn (i:=ti79) (v:=.lst 8 (rws zk ((X.take j).map λo=>o.w)++[zk X[j].w]) (some b2)) (b:=s) (o:=4) rfl rfl rfl hs2 (show 4+1<=7 by decide) rfl ?_
  refine⟨Tv,?_⟩
  have hR2:=(hQ2.at 7 rfl).store [(.lst 1 (X.map λo=>[ptr o.q]) (some t)),vm,uT,.s (.slice (some ⟨hb,0,none⟩) X.length X.length),(.lst 8 (rws zk ((X.take j).map λo=>o.w)++[zk X[j].w]) (some b2)),vS,vl]
  have hP6:Sp (qk room s hb X (.lst 1 (X.map λo=>[ptr o.q]) (some t)) vm uT (.lst 8 (rws zk ((X.take j).map λo=>o.w)++[zk X[j].w]) (some b2)) vS vl m log ((X.take (j+1)).map λo=>o.p.turn) ((X.take (j+1)).map λo=>o.w) ((X.take j).map λo=>o.p.split)) (S12.sO s (.cells (zt [(.lst 1 (X.map λo=>[ptr o.q]) (some t)),vm,uT,.s (.slice (some ⟨hb,0,none⟩) X.length X.length),vW,vS,vl] 4 [.lst 8 (rws zk ((X.take j).map λo=>o.w)++[zk X[j].w]) (some b2)]))):=by
   rw[tk (λo=>o.w)]
   unfold qk
   rw[show rws zk ((X.take j).map (λo=>o.w)++[X[j].w])=rws zk ((X.take j).map λo=>o.w)++[zk X[j].w]from Fa3]
   exact hR2
  generalize S12.sO s (.cells (zt [(.lst 1 (X.map λo=>[ptr o.q]) (some t)),vm,uT,.s (.slice (some ⟨hb,0,none⟩) X.length X.length),vW,vS,vl] 4 [.lst 8 (rws zk ((X.take j).map λo=>o.w)++[zk X[j].w]) (some b2)]))=S7 at*
  generalize hvW:AV.lst 8 (rws zk ((X.take j).map λo=>o.w)++[zk X[j].w]) (some b2)=uW at*
  have hs6:=Ba hP6
  have hq6:=Fk hP6 hlt
  refine Qc zb zri ?_
  refine Qat ?_
  refine za (o:=S7.obj X[j].q) _ hq6 ?_
  refine⟨by decide,?_⟩
  refine⟨(hP6.at 3 rfl).app (ie:=ti4) rfl rfl (rows:=[qd X[j].p.split]) rfl (by simp) ?_ (λb3 S13 hQ3=>⟨Tv,?_⟩),Tv⟩
  ·simp only[Fad,zh,Fbc,Fa8,Fal]
   show(min j X.length+1)*1<=_/\min j X.length+1<=_
   omega
  have hs3:=(hQ3.at 7 rfl).obj
  refine⟨?_,Tv⟩
  refine za _ rfl (qy rfl (qw (v:=.lst 1 (rws qd ((X.take j).map λo=>o.p.split)++[qd X[j].p.split]) (some b3)) rfl rfl rfl rfl ?_))
  refine yn (i:=ti50) (v:=.lst 1 (rws qd ((X.take j).map λo=>o.p.split)++[qd X[j].p.split]) (some b3)) (b:=s) (o:=5) rfl rfl rfl hs3 (show 5+1<=7 by decide) rfl ?_
  refine⟨Tv,?_⟩
  have hR3:=(hQ3.at 7 rfl).store [(.lst 1 (X.map λo=>[ptr o.q]) (some t)),vm,uT,.s (.slice (some ⟨hb,0,none⟩) X.length X.length),uW,(.lst 1 (rws qd ((X.take j).map λo=>o.p.split)++[qd X[j].p.split]) (some b3)),vl]
  refine Qd ?_
  refine⟨(j+1,uT,uW,.lst 1 (rws qd ((X.take j).map λo=>o.p.split)++[qd X[j].p.split]) (some b3)),(show X.length-(j+1)<X.length-j by omega),⟨hlt,?_⟩,Qao,⟨rfl,Tv⟩⟩
  dsimp only
  rw[tk (λo=>o.p.split)]
  unfold qk
  rw[show rws qd ((X.take j).map (λo=>o.p.split)++[X[j].p.split])=rws qd ((X.take j).map λo=>o.p.split)++[qd X[j].p.split]from Fa3]
  exact hR3
 have hil:j=X.length:=by omega
 subst hil
 rw[Fap]at hP
 have tok:∀{k:Nat} {v:AV} {l:List (List AV)} {K:(Store->Prop)->Store->Prop},Foc (TokR k v l) K S3->(v=nil/\l=[])\/∃t,v=.lst k l (some t):=λh=>by
  obtain⟨a,g,_,_,ht,_⟩:=h
  rcases ht with⟨e1,e2,_⟩|⟨_,t,e,_⟩
  ·exact .inl ⟨e2,e1⟩
  ·exact .inr ⟨t,e⟩
 have ne:∀{α:Type} (f:One->α) (g:α->List AV),rws g (X.map f)≠[]:=λf g e=>hX1 (Fcy.1 (Fcy.1 e))
 have hs9:=Ba hP
 obtain⟨t1,e1⟩:=(tok (hP.at 1 rfl)).resolve_left λh=>ne _ _ h.2
 obtain⟨t2,e2⟩:=(tok (hP.at 2 rfl)).resolve_left λh=>ne _ _ h.2
 obtain⟨t3,e3⟩:=(tok (hP.at 3 rfl)).resolve_left λh=>ne _ _ h.2
 have e4:=tok (hP.at 4 rfl)
 clear hP
 subst e1 e2 e3
 rcases e4 with⟨rfl,e4⟩|⟨t4,rfl⟩
 ·have elog:log=[]:=Fcy.1 e4
  subst elog
  refine Qat ?_
  refine im (r:=.tup [.agg [yg (X.map λo=>o.p.turn),.s (.slice (some ⟨hb,0,none⟩) X.length X.length),lst 8 zk (X.map λo=>o.w),lst 1 qd (X.map λo=>o.p.split),lst 3 xe []],int 0]) ?_ (.inr ⟨⟨hp,hd8⟩,X,vm,m,[],_,hI,rfl⟩)
  exact nh (AV.le_aggL ⟨AV.le_tok _ _ _,Tt,AV.le_tok _ _ _,AV.le_tok _ _ _,AV.le_nil 3,Tv⟩) (Tt)
 ·refine Qat ?_
  refine im (r:=.tup [.agg [yg (X.map λo=>o.p.turn),.s (.slice (some ⟨hb,0,none⟩) X.length X.length),lst 8 zk (X.map λo=>o.w),lst 1 qd (X.map λo=>o.p.split),lst 3 xe log],int 0]) ?_ (.inr ⟨⟨hp,hd8⟩,X,vm,m,log,_,hI,rfl⟩)
  exact nh (AV.le_aggL ⟨AV.le_tok _ _ _,Tt,AV.le_tok _ _ _,AV.le_tok _ _ _,AV.le_tok _ _ _,Tv⟩) (Tt)
theorem yd6{c:Cfg}{e:TypeId}{ie:TI}(hie:c.I e=some ie){S:Store}{K:Ja}(h:∀a,H1 a->K (.s (.slice a 0 0)) S):appendK Tryz.prog c S e (.av (.s (.slice none 0 0))) (.av (.s (.slice none 0 0))) K:=by
 refine⟨.inr ⟨_,_,rfl,rfl,?_⟩⟩
 have hx:=th (P:=Tryz.prog) (c:=c) (st:=S) hie (x:=.s (.slice none 0 0)) (rows:=[]) rfl ⟨by simp,by simp⟩ (K:=K) (λ_ a ha=>h a ha) (λhr=>absurd hr (Nat.lt_irrefl 0))
 obtain⟨h1,h2⟩:=hx
 exact⟨h1,λie' hie' Oth M w sv xv argTypes ty args t sto hs=>h2 ie' hie' Oth M w sv xv argTypes ty args t sto (AV.le_nil_emp _ _ _ hs)⟩
def per1:Per:=⟨1,1,1,0,0,[],[],[0],[0],[],false⟩
theorem Ny:qs 1 1 1=per1:=by decide
theorem ll:wg per1:=Ny▸(l6 (id:=1) (n:=1) (d:=1) ⟨by decide,by decide⟩ ⟨by decide,by decide⟩).2 ⟨by decide,by decide⟩
theorem zu4:per1.fits/\Gn per1:=by
 rw[<-Ny]
 exact⟨l7 1 1 1,by rw[Ny];exact⟨⟨by decide,λi hi=>by cases hi⟩,⟨by decide,λi hi=>by cases hi⟩,by decide,by decide,by decide⟩⟩
theorem zu5:Dh per1:=by decide
theorem zu3(n:Int):(qj per1 n).fits/\Gn (qj per1 n)/\(qj per1 n).turn=1/\¬Dh (qj per1 n)/\jc (qj per1 n)=[]/\(qj per1 n).hashes.length<16:=
 ⟨⟨⟨Faf _,λi hi=>by cases hi⟩,⟨Faf _,λi hi=>by cases hi⟩,show 1<=1000000000 by decide,show 1<=1000000000 by decide,show 1<=1000000000 by decide⟩,⟨⟨Faf _,λi hi=>by cases hi⟩,⟨Faf _,λi hi=>by cases hi⟩,show 1<=1000000000 by decide,show 1<=1000000000 by decide,show 1<=1000000000 by decide⟩,rfl,λh=>absurd (show(1:Int)<=0 from h.1) (by decide),rfl,show 1<16 by decide⟩
theorem zbv{room:Int}{s hb:Nat}{o:One}{vp vl:AV}{S:Store}(h:Sp (qk room s hb [o] vp nil nil nil nil vl [] [] [] [] []) S)(hp:o.p=per1)(hw:playW o.w)(hk:o.k=0)(hh:o.h=[])(R:Ja)
  (hR:∀(o2:One) vm2 vl2 log2 S2,o2.p.turn=1->playW o2.w->log2.length<=1->Sp (qk room s hb [o2] vp vm2 nil nil nil vl2 [] log2 [] [] []) S2->R (.tup []) S2):Jb 116 [ptr s,int 0] S R:=by
 obtain⟨t,rfl⟩:=K6 h (by simp)
 have h0:=Ba h
 have hq0:=Fk h (i:=0) (Fcz)
 obtain⟨f1,f2⟩:=zu4
 rw[show [o][0]=o from rfl,hp]at hq0
 refine Qa (c:=cfg 39) zb Tryz.func116 ?_
 refine Qat ?_
 refine⟨0,rfl,za _ (Bh (λo:One=>[ptr o.q]) (l:=[o]) (i:=0) Fcz) ?_⟩
 refine za (o:=S.obj o.q) _ hq0 ?_
 refine zvx per1 f1 ll rfl _ _ ?_
 refine Qat ?_
 refine yd6 (ie:=ti302) rfl (λa ha=>?_)
 refine yn (i:=ti135) (v:=.s (.slice a 0 0)) (b:=s) (o:=1) rfl rfl rfl h0 (show 1+1<=7 by decide) rfl ?_
 have h1:=(h.at 7 rfl).store [.lst 1 ([o].map λo=>[ptr o.q]) (some t),.s (.slice a 0 0),nil,.s (.slice (some ⟨hb,0,none⟩) [o].length [o].length),nil,nil,vl]
 have h2:Sp (qk room s hb [o] (.lst 1 ([o].map λo=>[ptr o.q]) (some t)) (.s (.slice a 0 0)) nil nil nil vl [] [] [] [] []) _:=(h1.at 0 rfl).same (Q:=λx=>RowsQ 8 Vm x (.s (.slice a 0 0)) []) λx _=>.inr ⟨a,ha,rfl,rfl⟩
 clear h0 hq0 h1 h
 refine AWp.loop (σ:=Bool×One×AV×List Frm) ⟨λx=>[(0,.av (ptr s)),(1,.av (int 0)),(6,.av (int (if x.1 then 1 else 0)))],λ_=>[],λx S'=>Sp (qk room s hb [x.2.1] (.lst 1 ([o].map λo=>[ptr o.q]) (some t)) (.s (.slice a 0 0)) nil nil nil x.2.2.1 [] x.2.2.2 [] [] []) S'/\playW x.2.1.w/\(x.1=false->x.2.1=o/\x.2.2.2=[])/\(x.1=true->(∃n,x.2.1.p=qj per1 n)/\x.2.1.k<=4096/\x.2.1.h.length<=1/\x.2.2.2.length<=1),λx=>if x.1 then 0 else 1⟩ zb ?_ ?_
 ·exact⟨(false,o,vl,[]),Tv,⟨h2,hw,λ_=>⟨rfl,rfl⟩,λe=>by cases e⟩,Qao,Tv⟩
 clear h2
 rintro⟨z,o1,vl1,log1⟩ S1 ⟨h1,hw1,hz0,hz1⟩
 dsimp only at h1 hw1 hz0 hz1⊢
 have e0:∀o:One,[o][0]=o:=λ_=>rfl
 cases z with
 |false=>
  obtain⟨rfl,rfl⟩:=hz0 rfl
  refine lh h1 (i:=0) Fcz (by rw[e0,hp];exact f1) (by rw[e0,hp];exact f2) (by rw[e0,hp];decide) (by rw[e0,hp];intro c hc;cases hc) (.inl (by rw[e0,hp];rfl)) (by rw[e0,hp];decide) hw1 (by rw[e0,hk];decide) (by decide) (by rw[e0,hh];decide) (show 1<=8 by decide) _ (λhno=>absurd (show Nf o1 from⟨by rw[hp];exact ll,by rw[hp];exact zu5⟩) hno) (λhr o2 vl2 S2 q1 q2 q3 q4 q5 q6 hS=>?_)
  refine ze (show(-9223372036854775808:Int)<=0+1/\(0:Int)+1<=9223372036854775807 by decide) ?_
  refine⟨(true,o2,vl2,_),Fcz,⟨hS,by rw[q5];exact lj hw1 _,(λe=>nomatch e),λ_=>⟨⟨_,by rw[q4,e0,hp]⟩,?_,?_,?_⟩⟩,⟨Tq,Tq,Tq,Tv⟩,Tv⟩
  ·rw[e0,hk]at q3;exact q3
  ·rw[q6,e0,hh];exact Fah _
  ·exact Fah _
 |true=>
  obtain⟨⟨n,hn⟩,hk1,hh1,hl1⟩:=hz1 rfl
  obtain⟨g1,g2,g3,g4,g5,g6⟩:=zu3 n
  refine lh h1 (i:=0) Fcz (by rw[e0,hn];exact g1) (by rw[e0,hn];exact g2) (by rw[e0,hn,g5];decide) (by rw[e0,hn,g5];intro c hc;cases hc) (.inl (by rw[e0,hn];exact g5)) (by rw[e0,hn];exact g6) hw1 (by rw[e0];omega) (by omega) (by rw[e0];omega) (show 1<=8 by decide) _ (λhno=>?_) (λhr=>absurd (by have:=hr.2;rw[e0,hn]at this;exact this) g4)
  exact ret (hR o1 _ vl1 log1 S1 (by rw[hn];exact g3) hw1 hl1 h1)
theorem ye2{s:Nat}{S:Store}{rows:List (List AV)}{tok:Option Nat}{rest:List AV}(hs:S.obj s=some (.cells (.lst 1 rows tok::rest)))(h1:rows.length=1)(T:Ja)(ht:Jb 116 [ptr s,int 0] S λr S'=>r=.tup []/\T (.tup []) S'):Jb 60 [ptr s,.agg [int 2,int 1,int 0,int 0,nil]] S T:=by
 refine Qa (c:=cfg 61) zb Tryz.func60 ?_
 refine Qc zb gp ?_
 refine Qat ?_
 refine Qas ?_
 refine bcd (λc=>?_) (λc=>absurd (show(1:Int)<=(rows.length:Nat) by omega) c)
 refine ze (show(-9223372036854775808:Int)<=1-1/\(1:Int)-1<=9223372036854775807 by decide) ?_
 refine ACalls.imp (f:=116) (xs:=[ptr s,int 0]) ht ?_
 rintro r S' ⟨rfl,h⟩
 exact ret h
def n9(g:Gnd)(n d:Int)(_:Nat)(X:List One)(_:AV)(m:List Nte)(log:List Frm):Prop:=m=[]/\log=[]/\qx g n/\(X.length:Int)=n/\∀j,(hj:j<X.length)->N8 g n d j X[j]
theorem zpq(g:Gnd)(hg:g.fits)(hT:g.T.length<=1000000)(n d room:Int)(hn:zy n)(hd:-1000000<=d/\d<=1000000)(hr:1<=room/\room<=4096)(rows:List (List AV))(hl:rows.length<=400)
  (hrow:∀row∈rows,∃kd pe nn,row=[int kd,int pe,int nn,int 0,nil]/\(qx g n->Dw n kd pe nn)) (st:Store) (R:Ja)
  (hbad:¬(qx g n/\1<=d/\d<=8)->R (.tup [.agg [nil,nil,nil,nil,nil],int 1]) st)
  (hok:qx g n/\1<=d/\d<=8->∀hb k,R (.tup [.agg [yg (List.replicate n.toNat 0),.s (.slice (some ⟨hb,0,none⟩) k k),lst 8 zk (List.replicate n.toNat (j9 g n)),lst 1 qd (List.replicate n.toNat false),lst 3 xe []],int 0]) st):
  Jb 27 [.agg (zn g),int n,int d,int room,.lst 5 rows none] st R:=by
 have a1:∀row∈rows,∃(x1 x2 x3 x4:Int) (y:AV),row=[int x1,int x2,int x3,int x4,y]/\(y=nil\/∃l,y=lst 10 yo l):=λrow hrw=>by
  obtain⟨kd,pe,nn,e,_⟩:=hrow row hrw
  exact⟨kd,pe,nn,0,nil,e,.inl rfl⟩
 have a2:∀i X vm m log,n9 g n d i X vm m log->(X.length:Int)=n/\(∀o∈X,playW o.w)/\log.length<=1000000:=λi X vm m log ⟨h1,h2,h3,h4,h5⟩=>by
  refine⟨h4,λo ho=>?_,by rw[h2];exact Faf _⟩
  obtain⟨j,hj,rfl⟩:=Faj ho
  rw[(h5 j hj).2.1]
  exact Va h3
 refine C7 (fo g hg hT n d room hn hd hr rows hl a1 (n9 g n d) (λX h1 h2 h3 h4=>⟨rfl,rfl,h1,h3,h4⟩) a2 ?_) st R λr hr=>?_
 ·rintro i hi s hb X vp vm vl m log S ⟨rfl,rfl,h3,h4,h5⟩ hP
  have hX:X≠[]:=λe=>by
   have:=h3.2.1
   rw[e]at h4
   simp at h4
   omega
  obtain⟨t,rfl⟩:=K6 hP hX
  obtain⟨kd,pe,nn,e,hid⟩:=hrow _ (Faa hi)
  rw[e]
  have hv:∃oa cap,vm=.s (.slice oa 0 cap):=by
   obtain⟨a,_,_,_,hq,_⟩:=hP.at 0 rfl
   obtain⟨oa,cap,e,_⟩:=RowsQ.form hq
   exact⟨oa,cap,e⟩
  obtain⟨oa,cap,rfl⟩:=hv
  refine ye3 (Ba hP) kd pe nn _ _ (by rw[Fa8,h4];exact hid h3) _ ?_
  exact⟨rfl,X,_,_,_,[],[],⟨rfl,rfl,h3,h4,h5⟩,hP⟩
 ·rcases hr with⟨h1,rfl⟩|⟨h1,X,vm,m,log,vH,⟨rfl,rfl,h3,h4,h5⟩,rfl⟩
  ·exact hbad h1
  ·have hl:n.toNat=X.length:=by omega
   have rep:∀{α:Type} (f:One->α) (x:α),(∀j,(hj:j<X.length)->f X[j]=x)->X.map f=List.replicate n.toNat x:=λf x h=>by
    rw[hl]
    refine Fcn (by simp) λj h1 h2=>?_
    rw[Fb9,Fbz]
    exact h j (by simpa using h1)
   rw[rep (λo=>o.p.turn) 0 λj hj=>by rw[(h5 j hj).1];rfl,rep (λo=>o.w) (j9 g n) λj hj=>(h5 j hj).2.1,rep (λo=>o.p.split) false λj hj=>by rw[(h5 j hj).1];rfl]
   exact hok h1 vH _
def Hr:Gnd:=⟨1,1,[0]⟩
def Rm(i:Nat)(X:List One)(vm:AV)(m:List Nte)(log:List Frm):Prop:=X.length=1/\(∀o∈X,playW o.w)/\log.length<=1/\m=[]/\(i=0->vm=nil/\log=[]/\∃o,X=[o]/\o.p=per1/\o.k=0/\o.h=[])/\(i=1->∀o∈X,o.p.turn=1)
theorem zpm(st:Store)(R:Ja)(hok:∀hb k W D L,R (.tup [.agg [yg [1],.s (.slice (some ⟨hb,0,none⟩) k k),lst 8 zk W,lst 1 qd D,lst 3 xe L],int 0]) st):
  Jb 27 [.agg (zn Hr),int 1,int 1,int 1,.lst 5 [[int 2,int 1,int 0,int 0,nil]] none] st R:=by
 have hnp:qx Hr 1:=⟨⟨by decide,by decide,by decide,by decide⟩,by decide,by decide⟩
 have a1:∀row∈[[int 2,int 1,int 0,int 0,nil]],∃(x1 x2 x3 x4:Int) (y:AV),row=[int x1,int x2,int x3,int x4,y]/\(y=nil\/∃l,y=lst 10 yo l):=λrow hrw=>by
  rw[Fbx.1 hrw]
  exact⟨2,1,0,0,nil,rfl,.inl rfl⟩
 have a0:∀X:List One,qx Hr 1->((1:Int)<=1/\(1:Int)<=8)->(X.length:Int)=1->(∀i,(hi:i<X.length)->N8 Hr 1 1 i X[i])->Rm 0 X nil [] []:=λX h1 h2 h3 h4=>by
  have hl:X.length=1:=by omega
  obtain⟨o,rfl⟩:=List.length_eq_one_iff.1 hl
  obtain⟨q1,q2,q3,q4,_⟩:=h4 0 Fcz
  have q1:o.p=qs 1 1 1:=q1
  have q2:o.w=j9 Hr 1:=q2
  refine⟨rfl,λx hx=>?_,Faf _,rfl,λ_=>⟨rfl,rfl,o,rfl,q1.trans Ny,q4,q3⟩,λe=>by cases e⟩
  rw[Fbx.1 hx,q2]
  exact Va hnp
 have a2:∀i X vm m log,Rm i X vm m log->(X.length:Int)=1/\(∀o∈X,playW o.w)/\log.length<=1000000:=λi X vm m log ⟨h1,h2,h3,_⟩=>⟨by rw[h1];rfl,h2,by omega⟩
 refine C7 (fo Hr (by unfold Gnd.fits;decide) (by decide) 1 1 1 (by unfold zy;decide) (by decide) (by decide) [[int 2,int 1,int 0,int 0,nil]] (show 1<=400 by decide) a1 Rm a0 a2 ?_) st R λr hr=>?_
 ·rintro i hi s hb X vp vm vl m log S ⟨h1,h2,h3,rfl,h5,_⟩ hP
  have hi0:i=0:=by simp at hi;omega
  subst hi0
  obtain⟨rfl,rfl,o,rfl,hp,hk,hh⟩:=h5 rfl
  obtain⟨t,rfl⟩:=K6 hP (by simp)
  refine ye2 (Ba hP) rfl _ ?_
  refine zbv hP hp (h2 o (Fbx.2 rfl)) hk hh _ (λo2 vm2 vl2 log2 S2 t1 w1 l1 hS=>?_)
  refine⟨rfl,rfl,[o2],_,vm2,vl2,[],log2,⟨rfl,λx hx=>by rw[Fbx.1 hx];exact w1,l1,rfl,(λe=>nomatch e),λ_ x hx=>by rw[Fbx.1 hx];exact t1⟩,hS⟩
 ·rcases hr with⟨h1,rfl⟩|⟨h1,X,vm,m,log,vH,⟨q1,q2,q3,q4,q5,q6⟩,rfl⟩
  ·exact absurd ⟨hnp,by decide,by decide⟩ h1
  ·obtain⟨o,rfl⟩:=List.length_eq_one_iff.1 q1
   have:=q6 rfl o (Fbx.2 rfl)
   have e:([o].map λo=>o.p.turn)=[1]:=by simp[this]
   rw[e]
   exact hok _ _ _ _ _
theorem zpo(g:Gnd)(hg:g.fits)(hT:g.T.length<=1000000)(n d room:Int)(hn:zy n)(v:AV)(hb:¬qx g n)(st:Store)(R:Ja)(h:R (.tup [.agg [nil,nil,nil,nil,nil],int 1]) st):
  Jb 27 [.agg (zn g),int n,int d,int room,v] st R:=by
 refine Qa (c:=cfg 156) zb Tryz.func27 ?_
 refine Ml g hg (by omega) n hn _ _ (λ_=>?_) (λhp=>absurd hp hb)
 exact ret h
theorem zpp(g:Gnd)(hg:g.fits)(hT:g.T.length<=1000000)(n d room:Int)(hn:zy n)(oa:Option Addr)(k cap:Nat)(hk:400<k)(st:Store)(R:Ja)(h:R (.tup [.agg [nil,nil,nil,nil,nil],int 1]) st):
  Jb 27 [.agg (zn g),int n,int d,int room,.s (.slice oa k cap)] st R:=by
 refine Qa (c:=cfg 156) zb Tryz.func27 ?_
 refine Ml g hg (by omega) n hn _ _ (λ_=>?_) (λhp=>?_)
 ·exact ret h
 refine bcd (λc1=>?_) (λc1=>absurd (show(k:Int)>400 by omega) c1)
 exact ret h
theorem ycl(room:Int)(hr:room<1)(st:Store)(R:Ja)(h:R (.tup [.s (.pointer none),int 1]) st):Jb 158 [int room] st R:=by
 refine Qa (c:=cfg 14) zb Tryz.func158 ?_
 refine bcd (λc1=>?_) (λc1=>absurd hr c1)
 exact ret h
theorem yaf(room:Int)(hr:room<1)(st:Store)(R:Ja)(h:R (.tup [.s (.pointer none),int 1]) st):Jb 83 [int room] st R:=by
 refine Qa (c:=cfg 21) zb Tryz.func83 ?_
 refine ycl room hr _ _ ?_
 exact ret h
theorem cu(w:Wld)(room:Int)(hr:room<1)(st:Store)(R:Ja)(h:R (.tup [.s (.pointer none),int 1]) st):Jb 46 [.agg (zk w),int room] st R:=by
 refine Qa (c:=cfg 25) zb Tryz.func46 ?_
 refine yaf room hr _ _ ?_
 exact ret h
theorem zpn(g:Gnd)(hg:g.fits)(hT:g.T.length<=1000000)(n d room:Int)(hn:zy n)(hp:qx g n)(hd:-1000000<=d/\d<=1000000)(hr:room<1)(st:Store)(R:Ja)(h:R (.tup [.agg [nil,nil,nil,nil,nil],int 1]) st):
  Jb 27 [.agg (zn g),int n,int d,int room,.s (.slice none 0 0)] st R:=by
 refine Qa (c:=cfg 156) zb Tryz.func27 ?_
 refine Ml g hg (by omega) n hn _ _ (λhb=>absurd hp hb) (λ_=>?_)
 have hp1:=hp.2
 refine AWp.loop (σ:=Unit) ⟨λ_=>[(1,.av (int n)),(2,.av (int d)),(3,.av (int room)),(10,.bx 10 0),(12,.bx 12 0),(15,.av (int 1))],λ_=>[(10,[nil,nil,nil,nil,nil]),(12,zk (j9 g n))],λ_ S=>S=st,λ_=>0⟩ zb ?_ ?_
 ·exact⟨(),Tv,rfl,Qao,⟨rfl,rfl,Tv⟩⟩
 rintro _ S rfl
 refine bcd (λc1=>?_) (λc1=>absurd hp1.1 c1)
 refine li 1 n d hd _ _ (λ_=>?_) (λ_=>?_)
 ·refine cu (j9 g n) room hr _ _ ?_
  exact ret h
 ·refine cu (j9 g n) room hr _ _ ?_
  exact ret h
theorem Dq(e:Int)(st:Store)(R:Ja)(h:R (int e) st):Jb 28 [int e] st R:=by
 refine Qa (c:=cfg 4) zb Tryz.func28 ?_
 exact ret h
theorem zak(st:Store)(R:Ja)(h:R (V.bool true) st):Jb 30 [] st R:=by
 refine Qa (c:=cfg 20) zb Tryz.func30 ?_
 refine⟨by decide,?_⟩
 refine⟨by decide,?_⟩
 refine zpm _ _ (λhb k W D L=>?_)
 refine Dq _ _ _ ?_
 refine⟨by decide,?_⟩
 refine ybc [1] [1] (by decide) _ _ ?_
 exact ret h
theorem tu{c:Cfg}{st:Store}{o:Oper}{t e:TypeId}{x y:Operand}(ho:o.op=.makeSlice t x y){it ie:TI}(hit:c.I t=some it)(hty:it.ty=.slice e)(hie:c.I e=some ie)
  {k k':IntKind} {n:Nat} (hb:ie.bytes*n<=281474976710656) (hn:n<=9223372036854775807) {R:Ja}
  (h:∀b m,Fresh st b->R (.s (.slice (some ⟨b,0,none⟩) n n)) (st.sO b (.cells (List.replicate m .any)))):AEff Tryz.prog c o [.s (.int k (n:Int)),.s (.int k' (n:Int))] st R:=by
 refine⟨λOth M w ρ hI sto hr=>?_⟩
 rw[ho]at hr
 have hr:Reads w (λb o=>M b o\/Oth b o) [.s (.int k (n:Int)),.s (.int k' (n:Int))] [ρ x,ρ y]:=by simpa [Op.operands]using hr
 obtain⟨u,v,he,h1,h2⟩:=Ia hr
 simp only[Fb8,and_true]at he
 rw[<-he.1]at h1
 rw[<-he.2]at h2
 have h1:=VRel.eq_s h1
 have h2:=VRel.eq_s h2
 have ht:=xc (hI _ _ hit) hty
 have hie:=hI _ _ hie
 obtain⟨inf,i1,i2,i3,z0,i4,i5⟩:=hie.info
 have hrun:(execOp ρ o).run Tryz.prog w=.ok (.value (.slice (some ⟨w.heap.size,0,none⟩) n n)) (w.alloc (.cells (madeCells z0.cells (n*inf.size)) e)):=by
  have:=run_make (P:=Tryz.prog) w t e inf z0 ht i1 i4 k k' (n:Int) (n:Int) (by omega) (by omega) (by rw[i3];have h9:=Int.ofNat_le.2 hb;rw[Int.natCast_mul]at h9;exact h9) (by omega)
  rw[Fbb]at this
  unfold execOp
  rw[ho]
  dsimp only
  rw[h1,h2]
  simp only[Sem.run_bind,this,Result.andThen_ok,Sem.run_pure]
 rw[hrun]
 obtain⟨h3,h4,h5⟩:=Dr sto (madeCells z0.cells (n*inf.size)) e (l:=List.replicate (madeCells z0.cells (n*inf.size)).size .any) ⟨by simp,λi x y hx hy=>by
  rw[Fbq]at hx
  split at hx
  ·cases hx;exact .any _
  ·cases hx⟩
 exact⟨_,_,_,h _ _ h3,.s _,h4,h5⟩
def Gs(g:Gnd)(p d r:Int)(v:AV):List AV:=zn g++[int p,int d,int r,v]
def g22:Gnd:=⟨2,2,[0,0,0,0]⟩
def Ov:List (List AV):=[[int 99,int 0,int 0,int 0,nil],[int 3,int 0,int 0,int 0,nil],[int 2,int 9,int 0,int 0,nil],[int 1,int 0,int 0,int 0,nil],[int 6,int 0,int 61,int 0,nil],[int 6,int 0,int (-1),int 0,nil]]
theorem zyx(n:Int):∀row∈Ov,∃kd pe nn,row=[int kd,int pe,int nn,int 0,nil]/\(qx g22 n->Dw n kd pe nn):=by
 intro row hr
 simp only[Ov,Fa0,Fbv,or_false]at hr
 unfold Dw
 rcases hr with rfl|rfl|rfl|rfl|rfl|rfl
 ·exact⟨_,_,_,rfl,λ_=>.inl rfl⟩
 ·exact⟨_,_,_,rfl,λ_=>.inr (.inl rfl)⟩
 ·exact⟨_,_,_,rfl,λh=>.inr (.inr (.inl ⟨rfl,by have:=h.2.2;omega⟩))⟩
 ·exact⟨_,_,_,rfl,λ_=>.inr (.inr (.inr (.inl ⟨rfl,by decide⟩)))⟩
 ·exact⟨_,_,_,rfl,λ_=>.inr (.inr (.inr (.inr ⟨rfl,.inr (by decide)⟩)))⟩
 ·exact⟨_,_,_,rfl,λ_=>.inr (.inr (.inr (.inr ⟨rfl,.inl (by decide)⟩)))⟩
theorem zqh(g:Gnd)(p d r:Int)(rows:List (List AV))(st:Store)(R:Ja)(h:R (V.bool true) st):Jb 5 [.agg (Gs g p d r (.lst 5 rows none))] st R:=by
 refine Qb (c:=cfg 180) zb Tryz.func5 ?_
 refine AWp.seq (AWp.of_vc zb ?_)
 refine AWp.seq (AWp.of_vc zb ?_)
 refine Ga rfl (it:=ti22) (ie:=ti5) rfl rfl rfl rfl rfl (n:=4) (by decide) (by decide) (λb hf=>?_)
 refine AWp.freezeBx (d:=3) (j:=2) (b:=b) (n:=4) (cap:=4) (k:=1) (rows:=rws u8C g22.T) (pad:=[]) rfl rfl (zc _ _ _) hf.2 rfl (Fah _) ?_ ?_ ?_
 ·intro row hr
  obtain⟨x,_,rfl⟩:=Fae.1 hr
  rfl
 ·intro row hr y hy
  obtain⟨x,_,rfl⟩:=Fae.1 hr
  simp[u8C,u8]at hy
  exact⟨_,hy,rfl⟩
 rw[Ph hf.1]
 refine AWp.of_vc zb ?_
 have hg:g22.fits:=by unfold Gnd.fits;decide
 refine AWp.loop (σ:=Nat) ⟨λn=>[(1,.bx 1 0),(3,.bx 3 0),(4,.av (int ((n:Int)-1)))],λ_=>[(1,Gs g p d r (.lst 5 rows none)),(3,zn g22)],λn st'=>n<=11/\st'=st,λn=>11-n⟩ zb ?_ ?_
 ·exact⟨0,Tv,⟨Faf _,rfl⟩,Qao,⟨rfl,rfl,Tv⟩⟩
 rintro n st' ⟨hn,rfl⟩
 dsimp only at hn⊢
 refine bcd (λc1=>?_) (λc1=>?_)
 ·refine AWp.loop (σ:=Nat) ⟨λm=>[(1,.bx 1 0),(3,.bx 3 0),(4,.av (int ((n:Int)-1))),(5,.av (int (2*(m:Int)-1)))],λ_=>[(1,Gs g p d r (.lst 5 rows none)),(3,zn g22)],λm st2=>m<=6/\st2=st',λm=>6-m⟩ zb ?_ ?_
  ·exact⟨0,Tv,⟨Faf _,rfl⟩,Qao,⟨rfl,rfl,Tv⟩⟩
  rintro m st2 ⟨hm,rfl⟩
  dsimp only at hm⊢
  refine bcd (λc2=>?_) (λc2=>?_)
  rotate_left
  ·refine Qd ?_
   refine⟨n+1,(show 11-(n+1)<11-n by omega),⟨by omega,rfl⟩,⟨Tq,Tq,?_,Tv⟩,⟨rfl,rfl,Tv⟩⟩
   rw[show((n+1:Nat):Int)-1=(n:Int)-1+1 by omega]
   exact Tq
  refine⟨by decide,?_⟩
  have key:∀(R:Ja),(¬(qx g22 ((n:Int)-1)/\1<=2*(m:Int)-1/\2*(m:Int)-1<=8)->R (.tup [.agg [nil,nil,nil,nil,nil],int 1]) st2)->
    (qx g22 ((n:Int)-1)/\1<=2*(m:Int)-1/\2*(m:Int)-1<=8->∀hb k,R (.tup [.agg [yg (List.replicate ((n:Int)-1).toNat 0),.s (.slice (some ⟨hb,0,none⟩) k k),lst 8 zk (List.replicate ((n:Int)-1).toNat (j9 g22 ((n:Int)-1))),lst 1 qd (List.replicate ((n:Int)-1).toNat false),lst 3 xe []],int 0]) st2)->
    Jb 27 [.agg (zn g22),int ((n:Int)-1),int (2*(m:Int)-1),int 1,.lst 5 Ov none] st2 R:=λR h1 h2=>
   zpq g22 hg (by decide) _ _ 1 (by unfold zy;omega) (by omega) (by decide) Ov (by decide) (zyx _) _ R h1 h2
  have h6:m=0\/m=1\/m=2\/m=3\/m=4\/m=5:=by omega
  obtain⟨M,hM⟩:∃M:Nat,M=m:=⟨m,rfl⟩
  have hM6:M<6:=by omega
  refine key _ (λhb=>?_) (λhk hb k=>?_)
  ·have hb2:¬((1<=(n:Int)-1/\(n:Int)-1<=8)/\1<=2*(m:Int)-1/\2*(m:Int)-1<=8):=λhh=>hb ⟨⟨⟨by decide,by decide,by decide,by decide⟩,hh.1⟩,hh.2⟩
   clear key hb
   by_cases hdg:1<=2*(m:Int)-1/\2*(m:Int)-1<=8
   ·have hnn:¬((n:Int)-1>=1/\(n:Int)-1<=8):=λhh=>hb2 ⟨hh,hdg⟩
    have h4:m=1\/m=2\/m=3\/m=4:=by omega
    clear hb2 hdg h6
    rcases h4 with rfl|rfl|rfl|rfl
    all_goals
     refine bcd (λh1=>bcd (λh2=>absurd ⟨h1,h2⟩ hnn) (λh2=>?_)) (λh1=>?_)
    all_goals
     refine Dq _ _ _ ?_
     refine Dq _ _ _ ?_
     refine AWp.loop (σ:=Unit) ⟨λ_=>[(1,.bx 1 0),(3,.bx 3 0),(4,.av (int ((n:Int)-1))),(5,.av (int (2*(M:Int)-1))),(6,.bx 6 0),(9,.av (int 0))],λ_=>[(1,Gs g p d r (.lst 5 rows none)),(3,zn g22),(6,[nil,nil,nil,nil,nil])],λ_ st3=>st3=st2,λ_=>0⟩ zb ?_ ?_
     ·exact⟨(),Tv,rfl,⟨Tq,Tq,Tq,by rw[hM];exact Tq,Tq,Tq,Tv⟩,⟨rfl,rfl,rfl,Tv⟩⟩
     rintro _ st3 rfl
     refine Qd ?_
     refine⟨M+1,(by dsimp only;omega),⟨by omega,rfl⟩,⟨Tq,Tq,Tq,?_,Tv⟩,⟨rfl,rfl,Tv⟩⟩
     rw[show 2*((M+1:Nat):Int)-1=2*(M:Int)-1+2 by omega]
     exact Tq
   ·have h2:m=0\/m=5:=by omega
    clear hb2 hdg h6
    rcases h2 with rfl|rfl
    all_goals
     refine bcd (λh1=>bcd (λh2=>?_) (λh2=>?_)) (λh1=>?_)
    all_goals
     refine Dq _ _ _ ?_
     refine Dq _ _ _ ?_
     refine AWp.loop (σ:=Unit) ⟨λ_=>[(1,.bx 1 0),(3,.bx 3 0),(4,.av (int ((n:Int)-1))),(5,.av (int (2*(M:Int)-1))),(6,.bx 6 0),(9,.av (int 0))],λ_=>[(1,Gs g p d r (.lst 5 rows none)),(3,zn g22),(6,[nil,nil,nil,nil,nil])],λ_ st3=>st3=st2,λ_=>0⟩ zb ?_ ?_
     ·exact⟨(),Tv,rfl,⟨Tq,Tq,Tq,by rw[hM];exact Tq,Tq,Tq,Tv⟩,⟨rfl,rfl,rfl,Tv⟩⟩
     rintro _ st3 rfl
     refine Qd ?_
     refine⟨M+1,(by dsimp only;omega),⟨by omega,rfl⟩,⟨Tq,Tq,Tq,?_,Tv⟩,⟨rfl,rfl,Tv⟩⟩
     rw[show 2*((M+1:Nat):Int)-1=2*(M:Int)-1+2 by omega]
     exact Tq
  ·obtain⟨⟨_,hk1,hk2⟩,hk3,hk4⟩:=hk
   clear key
   obtain⟨N,hN⟩:∃N:Nat,(n:Int)-1=(N:Nat):=⟨((n:Int)-1).toNat,by omega⟩
   have hN8:1<=N/\N<=8:=by omega
   have hnn:n=N+1:=by omega
   rw[hN,Fbb]
   have h4:m=1\/m=2\/m=3\/m=4:=by omega
   have l1:(rws zu (List.replicate N 0)).length=N:=by rw[zh,Fao]
   have l2:∀w:Wld,(rws zk (List.replicate N w)).length=N:=λw=>by rw[zh,Fao]
   have l3:(rws qd (List.replicate N false)).length=N:=by rw[zh,Fao]
   clear h6 hk3 hk4 c2
   rcases h4 with rfl|rfl|rfl|rfl
   all_goals
    refine bcd (λh1=>?_) (λh1=>absurd (show((N:Nat):Int)>=1 by omega) h1)
    refine bcd (λh2=>?_) (λh2=>absurd (show((N:Nat):Int)<=8 by omega) h2)
    refine Dq _ _ _ ?_
    refine wl (λc=>absurd (show((rws zu (List.replicate N 0)).length:Int)=(N:Nat) by rw[l1]) c) (λ_=>?_)
    refine wl (λc=>absurd (show((rws qd (List.replicate N false)).length:Int)=(N:Nat) by rw[l3]) c) (λ_=>?_)
    refine wl (λc=>absurd (show((rws zk (List.replicate N (j9 g22 (N:Nat)))).length:Int)=(N:Nat) by rw[l2]) c) (λ_=>?_)
    refine AWp.loop (σ:=Nat) ⟨λi=>[(1,.bx 1 0),(3,.bx 3 0),(4,.av (int (N:Nat))),(5,.av (int (2*(M:Int)-1))),(6,.bx 6 0),(9,.av (int (i:Nat)))],λ_=>[(1,Gs g p d r (.lst 5 rows none)),(3,zn g22),(6,[yg (List.replicate N 0),.s (.slice (some ⟨hb,0,none⟩) k k),lst 8 zk (List.replicate N (j9 g22 (N:Nat))),lst 1 qd (List.replicate N false),lst 3 xe []])],λi st3=>i<=N/\st3=st2,λi=>N-i⟩ zb ?_ ?_
    ·exact⟨0,Tv,⟨Faf _,rfl⟩,⟨Tq,Tq,Tq,by rw[hM];exact Tq,Tq,Tq,Tv⟩,⟨rfl,rfl,rfl,Tv⟩⟩
    rintro i st3 ⟨hi,rfl⟩
    dsimp only at hi⊢
    refine bcd (λd1=>?_) (λd1=>?_)
    rotate_left
    ·refine Qd ?_
     refine⟨M+1,(by dsimp only;omega),⟨by omega,rfl⟩,⟨Tq,Tq,Tq,?_,Tv⟩,⟨rfl,rfl,Tv⟩⟩
     rw[show 2*((M+1:Nat):Int)-1=2*(M:Int)-1+2 by omega]
     exact Tq
    rw[l1]at d1
    have hlt:i<N:=by omega
    have g1:i<(List.replicate N (0:Int)).length:=by rw[Fao];exact hlt
    have g2:i<(List.replicate N false).length:=by rw[Fao];exact hlt
    have g3:i<(List.replicate N (j9 g22 (N:Nat))).length:=by rw[Fao];exact hlt
    refine⟨i,rfl,za _ (zw g1) ?_⟩
    rw[Fbz]
    refine⟨i,rfl,za _ (zw g2) ?_⟩
    rw[Fbz]
    refine⟨i,rfl,za _ (zw g3) ?_⟩
    rw[Fbz]
    refine Qd ?_
    exact⟨i+1,(by show N-(i+1)<N-i;omega),⟨hlt,rfl⟩,Qao,⟨rfl,rfl,rfl,Tv⟩⟩
 have hng:¬qx ⟨0,0,[]⟩ 1:=λhh=>absurd hh.1.1.1 (by decide)
 have hnp:qx g22 1:=⟨⟨by decide,by decide,by decide,by decide⟩,by decide,by decide⟩
 refine ACalls.le (show leL [.agg [int 0,int 0,nil],int 1,int 1,int 1,nil] [.agg (zn ⟨0,0,[]⟩),int 1,int 1,int 1,nil]from⟨AV.le_aggL ⟨Tt,Tt,AV.le_nil 1,Tv⟩,Tt,Tt,Tt,Tt,Tv⟩) (zpo ⟨0,0,[]⟩ (by unfold Gnd.fits;decide) (by decide) 1 1 1 (by unfold zy;decide) _ hng _ _ ?_)
 refine zpn g22 hg (by decide) 1 1 0 (by unfold zy;decide) hnp (by decide) (by decide) _ _ ?_
 have hlen:∀(b:Nat) (S:Store) (R:Ja),R (.tup [.agg [nil,nil,nil,nil,nil],int 1]) S->Jb 27 [.agg (zn g22),int 1,int 1,int 1,.s (.slice (some ⟨b,0,none⟩) 401 401)] S R:=λb S R h=>zpp g22 hg (by decide) 1 1 1 (by unfold zy;decide) _ 401 401 (by decide) S R h
 refine Qc zb zqt ?_
 refine⟨tu rfl (it:=ti75) (ie:=ti84) rfl rfl rfl (n:=401) (by decide) (by decide) λb mm hf=>⟨Qe,⟨hlen _ _ _ ⟨Tv,⟨⟨Qe,⟨⟨Tv,⟨⟨Tv,?_⟩,Tv⟩⟩,Tv⟩⟩,Tv⟩⟩,⟨⟨Qe,⟨hlen _ _ _ ⟨Tv,⟨⟨Tv,⟨⟨Tv,?_⟩,Tv⟩⟩,Tv⟩⟩,Tv⟩⟩,Tv⟩⟩⟩,⟨⟨Qe,⟨tu rfl (it:=ti75) (ie:=ti84) rfl rfl rfl (n:=401) (by decide) (by decide) λb mm hf=>⟨Qe,⟨hlen _ _ _ ⟨Tv,⟨⟨Tv,⟨⟨Tv,?_⟩,Tv⟩⟩,Tv⟩⟩,Tv⟩⟩,Tv⟩⟩,Tv⟩⟩
 all_goals
  refine Dq _ _ _ ?_
  refine Dq _ _ _ ?_
  refine Dq _ _ _ ?_
  refine zy9 g22 hg _ _ (λz hz=>?_)
  refine zi (λc=>?_) (λc=>absurd (hz.2 hnp.1) (by simp[c]))
  refine zak _ _ ?_
  exact Ab (Tt) (Ai hf.1) h
structure Act30 where
 K:Int
 P:Int
 N:Int
 I:Int
 C:List Cmd
def Rc(a:Act30):List AV:=[int a.K,int a.P,int a.N,int a.I,lst 10 yo a.C]
def Act30.good(a:Act30):Prop:=(zy a.K/\zy a.P/\zy a.N/\zy a.I)/\a.C.length<=140737488355328/\∀c∈a.C,c.sized
structure Scr30 where
 G:Gnd
 P:Int
 D:Int
 R:Int
 L:List Act30
def gk(a:Scr30):List AV:=Gs a.G a.P a.D a.R (lst 5 Rc a.L)
def Scr30.good(a:Scr30):Prop:=a.G.T.length<=140737488355328/\(zy a.P/\zy a.D/\zy a.R)/\a.L.length<=140737488355328/\∀x∈a.L,x.good
theorem ye4:Codec Tryz.prog 85 Act30 Rc Act30.good:=by
 refine⟨λ{H} enc w base held fuel cs x hx hw=>?_⟩
 have hu:=Tryz.underlying85
 have hl:cs.length=5:=(Kq hu hx).trans (by kernel_rfl)
 obtain⟨a0,q0,h0⟩:=xk hu hx hw 0 0 1 rfl rfl (by kernel_rfl) k8
 obtain⟨a1,q1,h1⟩:=xk hu hx hw 1 1 1 rfl rfl (by kernel_rfl) k8
 obtain⟨a2,q2,h2⟩:=xk hu hx hw 2 2 1 rfl rfl (by kernel_rfl) k8
 obtain⟨a3,q3,h3⟩:=xk hu hx hw 3 3 1 rfl rfl (by kernel_rfl) k8
 obtain⟨a4,q4,h4⟩:=xk hu hx hw 4 4 1 rfl rfl (by kernel_rfl) ycn
 refine⟨⟨a0,a1,a2,a3,a4⟩,⟨⟨q0,q1,q2,q3⟩,q4⟩,?_⟩
 have:=h0.cons rfl (h1.cons rfl (h2.cons rfl (h3.cons rfl (h4.cons rfl (CellsOK.stop hl)))))
 rw[Fdc]at this
 exact this
theorem ye1:Codec Tryz.prog 75 (List Act30) (λl=>[lst 5 Rc l]) (λl=>l.length<=140737488355328/\∀x∈l,x.good):=
 (Codec.slice Tryz.underlying75 (k:=5) (by kernel_rfl) (by decide) (of_decide_eq_true (by kernel_rfl)) ye4).weaken λ_ h=>⟨h.2,h.1⟩
theorem scr30_codec:Codec Tryz.prog 77 Scr30 gk Scr30.good:=by
 refine⟨λ{H} enc w base held fuel cs x hx hw=>?_⟩
 have hu:=Tryz.underlying77
 have hl:cs.length=7:=(Kq hu hx).trans (by kernel_rfl)
 obtain⟨a0,q0,h0⟩:=xk hu hx hw 0 0 3 rfl rfl (by kernel_rfl) zzw
 obtain⟨a1,q1,h1⟩:=xk hu hx hw 1 3 1 rfl rfl (by kernel_rfl) k8
 obtain⟨a2,q2,h2⟩:=xk hu hx hw 2 4 1 rfl rfl (by kernel_rfl) k8
 obtain⟨a3,q3,h3⟩:=xk hu hx hw 3 5 1 rfl rfl (by kernel_rfl) k8
 obtain⟨a4,q4,h4⟩:=xk hu hx hw 4 6 1 rfl rfl (by kernel_rfl) ye1
 refine⟨⟨a0,a1,a2,a3,a4⟩,⟨q0,⟨q1,q2,q3⟩,q4⟩,?_⟩
 have:=h0.cons rfl (h1.cons rfl (h2.cons rfl (h3.cons rfl (h4.cons rfl (CellsOK.stop hl)))))
 rw[Fdc]at this
 exact this
end Go.Proofs
