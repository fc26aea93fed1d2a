/- Ground of laws of thronglaw30: contracts and plain lemmas; no condition beyond the row's own. -/
import Derived.Test.YtieceacpbjcddaaGreatKE
set_option linter.unusedSimpArgs false
set_option linter.unusedVariables false
set_option linter.defProp false
namespace Go.V
section
variable {a b m L c:Int}
theorem Kr(ha:0<=a)(h:a<=b):a*a<=b*b:=Fbj h h ha (by omega)
theorem zpr{p q:Int}(hp:0<=p)(h:p<q):p*p<q*q:=
 Int.lt_of_le_of_lt (Fdg (Int.le_of_lt h) hp) (Int.mul_lt_mul_of_pos_right h (by omega))
theorem mo(a b c d:Int):a*b*(c*d)=a*c*(b*d):=by ac_rfl
theorem yb8{x y s:Int}(hx:0<=x)(hy:0<=y)(hm:0<=m)(hmL:m<L)(hs:x*x+y*y<(L+1)*(L+1))(ha:a=x*m/L)(hb:b=y*m/L):a*a+b*b<(m+1)*(m+1):=by
 have hL:0<L:=by omega
 have a1:a*L<=x*m:=by rw[ha];exact Int.ediv_mul_le _ (by omega)
 have b1:b*L<=y*m:=by rw[hb];exact Int.ediv_mul_le _ (by omega)
 have a0:0<=a:=by rw[ha];exact Fci (Fa1 hx hm) (by omega)
 have b0:0<=b:=by rw[hb];exact Fci (Fa1 hy hm) (by omega)
 have a2:=Kr (Fa1 a0 (by omega:(0:Int)<=L)) a1
 have b2:=Kr (Fa1 b0 (by omega:(0:Int)<=L)) b1
 have e1:(a*a+b*b)*(L*L)=a*L*(a*L)+b*L*(b*L):=by grind
 have e2:x*m*(x*m)+y*m*(y*m)=(x*x+y*y)*(m*m):=by grind
 have h1:(a*a+b*b)*(L*L)<=(x*x+y*y)*(m*m):=by grind
 refine Int.not_le.1 λhle=>?_
 have h2:(m+1)*(m+1)*(L*L)<=(x*x+y*y)*(m*m):=Int.le_trans (Int.mul_le_mul_of_nonneg_right hle (Fa1 (by omega) (by omega))) h1
 have h3:(x*x+y*y)*(m*m)<=((L+1)*(L+1))*(m*m):=Int.mul_le_mul_of_nonneg_right (by omega) (Fa1 hm hm)
 have e3:(m+1)*(m+1)*(L*L)=((m+1)*L)*((m+1)*L):=mo ..
 have e4:((L+1)*(L+1))*(m*m)=((L+1)*m)*((L+1)*m):=mo ..
 have h4:((L+1)*m)*((L+1)*m)<((m+1)*L)*((m+1)*L):=by
  have k1:(L+1)*m<(m+1)*L:=by grind
  have k0:0<=(L+1)*m:=Fa1 (by omega) hm
  exact zpr k0 k1
 omega
def kx(v:Vc):Prop:=(-1125899906842624<=v.1/\v.1<=1125899906842624)/\(-1125899906842624<=v.2/\v.2<=1125899906842624)
theorem Gm{v:Vc}(h:kx v):sqr v=v.1*v.1+v.2*v.2/\jf v=v/\0<=sqr v/\sqr v<(jb (sqr v)+1)*(jb (sqr v)+1):=by
 obtain⟨h1,h2⟩:=h
 have e:sqr v=v.1*v.1+v.2*v.2:=by grind[sqr,cd]
 have p1:0<=v.1*v.1:=by rcases Int.le_total 0 v.1 with h|h;exact Fa1 h h;rw[<-Int.neg_mul_neg];exact Fa1 (by omega) (by omega)
 have p2:0<=v.2*v.2:=by rcases Int.le_total 0 v.2 with h|h;exact Fa1 h h;rw[<-Int.neg_mul_neg];exact Fa1 (by omega) (by omega)
 have b:∀x:Int,-1125899906842624<=x/\x<=1125899906842624->x*x<=1125899906842624*1125899906842624:=λx hx=>by
  rcases Int.le_total 0 x with h|h
  ·exact Kr h hx.2
  ·rw[<-Int.neg_mul_neg];exact Kr (by omega) (by omega)
 have b1:=b _ h1
 have b2:=b _ h2
 have h0:0<=sqr v:=by omega
 refine⟨e,?_,h0,?_⟩
 ·grind[jf,Cw]
 ·obtain⟨r0,r1,r2,r3⟩:=H8 h0
  grind
theorem Ke(x:Int):x*x=(x.natAbs:Int)*x.natAbs:=by grind
theorem W9(hm:0<=m)(hL:0<L):((D4 c m L).natAbs:Int)=(c.natAbs:Int)*m/L:=by
 have q:∀z:Int,0<=z->0<=z*m/L:=λz hz=>Fci (Fa1 hz hm) (by omega)
 unfold D4
 split
 ·have:=q (-c) (by omega)
  rw[show(c.natAbs:Int)=-c by omega];omega
 ·have:=q c (by omega)
  rw[show(c.natAbs:Int)=c by omega];omega
theorem Pi(hm:0<=m)(hmL:m<L):(D4 c m L).natAbs<=c.natAbs:=by
 have h1:=W9 (c:=c) hm (show 0<L by omega)
 have h2:(c.natAbs:Int)*m/L<=c.natAbs:=by
  have:(c.natAbs:Int)*m<=c.natAbs*L:=Fdg (by omega) (by omega)
  exact Int.le_trans (Int.ediv_le_ediv (by omega) this) (by rw[Int.mul_ediv_cancel _ (by omega)];exact Fcc _)
 omega
theorem sb{v:Vc}(hs:kx v)(hm:0<=m):kx (xo v m)/\(xo v m).1*(xo v m).1+(xo v m).2*(xo v m).2<(m+1)*(m+1):=by
 obtain⟨e,en,h0,h1⟩:=Gm hs
 have hmx:max m 0=m:=by omega
 have n1:nrm v.1=v.1:=congrArg Prod.fst en
 have n2:nrm v.2=v.2:=congrArg Prod.snd en
 have r0:=(H8 h0).1
 unfold xo
 rw[hmx]
 split
 ·rename_i hle
  rw[en]
  refine⟨hs,?_⟩
  have:=Kr (show 0<=jb (sqr v)+1 by omega) (show jb (sqr v)+1<=m+1 by omega)
  omega
 ·rename_i hgt
  rw[n1,n2]
  have hmL:m<jb (sqr v):=by omega
  have c1:=Pi (c:=v.1) hm hmL
  have c2:=Pi (c:=v.2) hm hmL
  refine⟨?_,?_⟩
  ·unfold kx at hs⊢
   dsimp only
   omega
  ·dsimp only
   rw[Ke (D4 v.1 _ _),Ke (D4 v.2 _ _)]
   refine yb8 (s:=0) (x:=v.1.natAbs) (y:=v.2.natAbs) (by omega) (by omega) hm hmL ?_ (W9 hm (by omega)) (W9 hm (by omega))
   rw[<-Ke,<-Ke]
   omega
theorem oj(x:Int)(k:Nat):(x.tdiv (2^k:Nat)).natAbs<=x.natAbs:=by
 rw[Int.natAbs_tdiv]
 exact Nat.div_le_self _ _
def qp(p:Vc):Prop:=(0<=p.1/\p.1<=8388608)/\(0<=p.2/\p.2<=8388608)
theorem Lx(ha:-2251799813685248<=a/\a<=2251799813685248)(hb:-2251799813685248<=b/\b<=2251799813685248):yx a b=a+b:=by
 unfold yx ke
 rw[Cw (by omega),Cw (by omega),if_neg (by omega),if_neg (by omega)]
theorem Rk{p q:Vc}(hp:qp p)(hq:qp q):qo q p=(q.1-p.1,q.2-p.2)/\kx (qo q p):=by
 obtain⟨p1,p2⟩:=hp
 obtain⟨q1,q2⟩:=hq
 have e:=cz (a:=q) (b:=p) (by omega) (by omega) (by omega) (by omega)
 refine⟨e,?_⟩
 rw[e]
 unfold kx
 dsimp only
 omega
theorem S0{p q:Vc}(hp:qp p)(hq:qp q){r:Int}(hr:0<r):-16777216<=(ky p r q).1/\(ky p r q).1<=16777216/\-16777216<=(ky p r q).2/\(ky p r q).2<=16777216:=by
 obtain⟨e,hs⟩:=Rk hq hp
 unfold ky
 split
 ·rename_i hn
  generalize hm:r-jb (sqr (qo p q))=m
  have hv:∀w:Vc,kx w->(w.1.natAbs<=16777216/\w.2.natAbs<=16777216)->-16777216<=(xo w m).1/\(xo w m).1<=16777216/\-16777216<=(xo w m).2/\(xo w m).2<=16777216:=by
   intro w hw hb
   obtain⟨_,en,_,_⟩:=Gm hw
   have n1:nrm w.1=w.1:=congrArg Prod.fst en
   have n2:nrm w.2=w.2:=congrArg Prod.snd en
   unfold xo
   split
   ·rw[en];omega
   ·rename_i hgt
    rw[n1,n2]
    have c1:=Pi (c:=w.1) (m:=max m 0) (L:=jb (sqr w)) (by omega) (by omega)
    have c2:=Pi (c:=w.2) (m:=max m 0) (L:=jb (sqr w)) (by omega) (by omega)
    dsimp only
    omega
  obtain⟨p1,p2⟩:=hp
  obtain⟨q1,q2⟩:=hq
  split
  ·exact hv _ (by unfold kx;decide) (by decide)
  ·refine hv _ hs ?_
   rw[e]
   dsimp only
   omega
 ·decide
theorem zyv{w:Wld}{u:Unt}(hu:qp u.pos)(h:∀x∈w.U,x.inn=0->qp x.pos)(hl:w.U.length<=4096):kx (Fz w u):=by
 have key:∀(l:List Unt) (v:Vc) (B:Nat),(∀x∈l,x.inn=0->qp x.pos)->B+l.length<=4096->(v.1.natAbs<=B*16777216/\v.2.natAbs<=B*16777216)->
   kx (l.foldl (λv x=>if x.inn=0/\x.id≠u.id then xp v (ky u.pos (zq u.kind+zq x.kind+16384) x.pos)else v) v):=by
  intro l
  induction l with
  |nil=>
   intro v B _ hB hv
   unfold kx
   simp only[Fcr]at hB
   simp only[List.foldl_nil]
   omega
  |cons x l ih=>
   intro v B hx hB hv
   simp only[Fbd]at hB
   rw[Fch]
   refine ih _ (B+1) (λy hy=>hx y (Fav _ hy)) (by omega) ?_
   split
   ·rename_i hc
    have r1:=K4 u.kind
    have r2:=K4 x.kind
    have:=S0 hu (hx x Fa6 hc.1) (r:=zq u.kind+zq x.kind+16384) (by omega)
    generalize ky u.pos (zq u.kind+zq x.kind+16384) x.pos=z at*
    have e:xp v z=(v.1+z.1,v.2+z.2):=by
     unfold xp
     rw[Lx (by omega) (by omega),Lx (by omega) (by omega)]
    rw[e]
    dsimp only
    omega
   ·exact⟨Fcj hv.1 (Fa5 _ (Fc6 B)),Fcj hv.2 (Fa5 _ (Fc6 B))⟩
 unfold Fz
 refine key w.U (0,0) 0 h (by omega) ⟨?_,?_⟩
 ·show(0:Int).natAbs<=_;simp
 ·show(0:Int).natAbs<=_;simp
end
section
variable {w:Wld} {i:Nat} {u:Unt}
theorem i7(w:Wld){a b:Unt}(h:a.id=b.id):yc (yc w a) b=yc w b:=by
 unfold yc
 simp only[List.map_map]
 congr 1
 refine Fbu λx _=>?_
 simp only[Function.comp]
 by_cases e:x.id=a.id
 ·rw[if_pos e,if_pos h,if_pos (e.trans h)]
 ·rw[if_neg e]
theorem zun(hr:yi w.U)(hi:i<w.U.length):yc w w.U[i]=w:=by
 rw[Gv hr hi rfl]
 congr 1
 exact List.set_getElem_self hi
theorem ztr(hr:yi w.U)(hi:i<w.U.length)(hid:u.id=w.U[i].id):yi (yc w u).U:=by
 refine ii (Nn w u) (λj hj=>?_) hr
 by_cases e:j=i
 ·subst e
  obtain⟨_,h⟩:=Np hr hi hid
  rw[h];exact hid
 ·rw[i8 hr hi hid hj e]
def Hs(u u':Unt):Prop:=u'.id=u.id/\u'.kind=u.kind/\(u'.pos=u.pos\/∃(v:Vc) (m:Int) (k:Nat),kx v/\0<=m/\m<=jy u.kind/\u'.pos=xp u.pos (wy (jf (xo v m)) k))
theorem M5(k:Int):8192<=jy k/\jy k<=24576:=by unfold jy;split<;>(try split)<;>(try split)<;>omega
theorem ee(hr:yi w.U)(hi:i<w.U.length){v:Vc}{m:Int}(hs:kx v)(hm:0<=m)(hm2:m<=jy w.U[i].kind):∃u',j4 w w.U[i] (xo v m)=yc w u'/\Hs w.U[i] u':=by
 unfold j4
 cases h:ko w w.U[i] (jf (xo v m)) 5 0 with
 |none=>exact⟨w.U[i],(zun hr hi).symm,rfl,rfl,.inl rfl⟩
 |some r=>
  obtain⟨k,p⟩:=r
  obtain⟨_,_,h3⟩:=Mu 5 0 h
  exact⟨_,rfl,rfl,rfl,.inr ⟨v,m,k,hs,hm,hm2,h3⟩⟩
theorem Lf(hm:zx w)(hu:u∈w.U)(h0:u.inn=0):qp u.pos:=by
 have:=Lt hm.1.1.2.1.1 (hm.2.1 u hu h0).1
 unfold qp
 omega
theorem sg{g:Gnd}(hg:zp g){t:Nat}(ht:t<g.T.length):qp (qn g t):=by
 obtain⟨⟨h1,h2⟩,⟨h3,h4⟩,h5,_⟩:=hg
 have a:=Int.emod_nonneg (t:Int) (show g.W≠0 by omega)
 have b:=Int.emod_lt_of_pos (t:Int) (show 0<g.W by omega)
 have c:0<=(t:Int)/g.W:=Fci (by omega) (by omega)
 have d:(t:Int)/g.W<g.H:=Int.ediv_lt_of_lt_mul (by omega) (by rw[Int.mul_comm];omega)
 unfold qp qn tx ty
 dsimp only
 omega
theorem fg(hm:zx w)(hi:i<w.U.length)(h0:w.U[i].inn=0)(hu:mvG 0 u=mvG 0 w.U[i])(ht:u.next.toNat<w.G.T.length):∃u',Az w u=yc w u'/\Hs w.U[i] u':=by
 obtain⟨f1,f2,f3,f4,f5⟩:=Ij hu
 have hmp:=Lf hm (Faa hi) h0
 have same:∀u':Unt,u'.id=u.id->u'.kind=u.kind->u'.pos=u.pos->∃u2,yc w u'=yc w u2/\Hs w.U[i] u2:=λu' a b c=>⟨u',rfl,a.trans f1,b.trans f3,.inl (c.trans f4)⟩
 unfold Az
 split
 ·obtain⟨h2,e⟩:=Np (u:={u with stuck:=0}) hm.1.2.1 hi f1
  have hr2:=ztr (u:={u with stuck:=0}) hm.1.2.1 hi f1
  have hs:=(Rk (p:=u.pos) (q:=qn w.G u.next.toNat) (by rw[f4];exact hmp) (sg hm.1.1.2.1.1 ht)).2
  have hsp:=M5 u.kind
  obtain⟨u2,e2,k1,k2,k3⟩:=ee hr2 h2 (v:=qo (qn w.G u.next.toNat) u.pos) (m:=jy u.kind) hs (by omega) (by rw[e];exact Fcc _)
  rw[e]at e2 k1 k2 k3
  refine⟨u2,?_,k1.trans f1,k2.trans f3,?_⟩
  ·unfold Hw
   rw[e2]
   exact i7 w k1.symm
  ·rw[<-f4,<-f3];exact k3
 ·split
  ·exact same _ rfl rfl rfl
  ·exact same _ rfl rfl rfl
theorem zv1(hg:zp w.G){own:Nat}(ho:own<w.G.T.length)(h:¬Ae w u own<0):(Ae w u own).toNat<w.G.T.length:=by
 have:=Vn hg (u:=u) ho
 have:=hg.2.2.1
 unfold wt at*
 omega
theorem zzs(hm:zx w)(hi:i<w.U.length)(h0:w.U[i].inn=0)(hg:w.U[i].goal≠-1):∃u',Bk w w.U[i]=yc w u'/\Hs w.U[i] u':=by
 have hu:=Ru hm hi
 have hgn:=hm.1.1.2.1.1
 unfold Bk
 split
 ·exact⟨_,rfl,rfl,rfl,.inl rfl⟩
 ·split
  ·split
   ·exact⟨_,rfl,rfl,rfl,.inl rfl⟩
   ·rename_i hn
    exact fg hm hi h0 (u:={w.U[i]with next:=Ae w w.U[i] (kr w.G w.U[i].pos)}) rfl (zv1 hgn (Vd hm hi h0) hn)
  ·rename_i hl
   refine fg hm hi h0 rfl ?_
   have hne:w.U[i].next≠-1:=λe=>hl (by unfold G7;simp[e])
   have:=hu.2.1.2.1
   have:=hgn.2.2.1
   unfold wt at*
   omega
theorem za1(hm:zx w)(hi:i<w.U.length)(h0:w.U[i].inn=0):∃u',vn w w.U[i]=yc w u'/\Hs w.U[i] u':=by
 unfold vn
 split
 ·have hsp:=M5 w.U[i].kind
  have e:(jy w.U[i].kind).tdiv 4=jy w.U[i].kind/4:=Fa4 (by omega)
  unfold C9
  rw[e]
  exact ee hm.1.2.1 hi (zyv (Lf hm (Faa hi) h0) (λx hx h=>Lf hm hx h) hm.1.1.2.1.2.2) (by omega) (by omega)
 ·exact zzs hm hi h0 ‹_›
end
theorem zas(a b:Vc):(xp a b).ok:=by
 have h1:=Pn (nrm a.1+nrm b.1)
 have h2:=Pn (nrm a.2+nrm b.2)
 exact⟨⟨by show _<=ke _;omega,by show ke _<=_;omega⟩,⟨by show _<=ke _;omega,by show ke _<=_;omega⟩⟩
def playW(w:Wld):Prop:=zx w/\∀u∈w.U,u.pos.ok
theorem playW.sizes{w:Wld}(h:playW w):w.G.T.length<=1000000/\w.B.length<=1000000/\w.U.length<=1000000:=by
 have f:=Ds h.1
 have:=f.hB
 have:=f.hU
 have:=f.hT
 omega
theorem ux{u u':Unt}(h:Hs u u')(hu:u.pos.ok):u'.pos.ok:=by
 rcases h.2.2 with e|⟨v,m,k,_,_,_,e⟩
 ·rw[e];exact hu
 ·rw[e];exact zas _ _
theorem zui{w:Wld}{u:Unt}(hw:∀x∈w.U,x.pos.ok)(hu:u.pos.ok):∀x∈(yc w u).U,x.pos.ok:=by
 intro x hx
 unfold yc at hx
 obtain⟨y,hy,rfl⟩:=Fae.1 hx
 split
 ·exact hu
 ·exact hw y hy
section
variable {w:Wld} {i:Nat}
open Classical in
noncomputable def goN(w:Wld):Nat->Wld
 |0=>w
 |i+1=>if h:i<(goN w i).U.length then(if(goN w i).U[i].inn=0 then vn (goN w i) (goN w i).U[i]else goN w i)else goN w i
noncomputable def xt(w:Wld):Wld:=goN w w.U.length
theorem zux(h:playW w)(hi:i<w.U.length)(h0:w.U[i].inn=0):playW (vn w w.U[i])/\(vn w w.U[i]).U.length=w.U.length/\(vn w w.U[i]).G=w.G/\(vn w w.U[i]).B=w.B:=by
 obtain⟨u',h1,h2⟩:=za1 h.1 hi h0
 refine⟨⟨zw0 h.1 hi h0,?_⟩,?_,?_,?_⟩
 ·rw[h1]
  exact zui h.2 (ux h2 (h.2 _ (Faa hi)))
 ·rw[h1,Nn]
 ·rw[h1];rfl
 ·rw[h1];rfl
theorem Oz(h:playW w):∀i,playW (goN w i)/\(goN w i).U.length=w.U.length/\(goN w i).G=w.G/\(goN w i).B=w.B
 |0=>⟨h,rfl,rfl,rfl⟩
 |i+1=>by
  obtain⟨h1,h2,h3,h4⟩:=Oz h i
  unfold goN
  by_cases hi:i<(goN w i).U.length
  ·rw[dif_pos hi]
   by_cases h0:(goN w i).U[i].inn=0
   ·rw[if_pos h0]
    obtain⟨q1,q2,q3,q4⟩:=zux h1 hi h0
    exact⟨q1,q2.trans h2,q3.trans h3,q4.trans h4⟩
   ·rw[if_neg h0]
    exact⟨h1,h2,h3,h4⟩
  ·rw[dif_neg hi]
   exact⟨h1,h2,h3,h4⟩
theorem zzv(hi:i<(goN w i).U.length)(h0:(goN w i).U[i].inn=0):goN w (i+1)=vn (goN w i) (goN w i).U[i]:=by
 rw[goN,dif_pos hi,if_pos h0]
theorem zzu(hi:i<(goN w i).U.length)(h0:(goN w i).U[i].inn≠0):goN w (i+1)=goN w i:=by
 rw[goN,dif_pos hi,if_neg h0]
theorem yeo(h:playW w):playW (xt w)/\(xt w).U.length=w.U.length:=⟨(Oz h _).1,(Oz h _).2.1⟩
end
section
variable {x:Unt} {w:Wld}
theorem Lq{U:List Unt}{v:Unt}(h:v∈U++[x]):v∈U\/v=x:=by grind
theorem zts{U:List Unt}(hr:yi U)(hx:∀u∈U,u.id<x.id):yi (U++[x]):=by
 intro j hj h0
 have hj2:j<U.length+1:=by grind
 by_cases e:j<U.length
 ·rw[Fbg (by omega),Fbg e]
  exact hr j e h0
 grind
theorem zw3{c:Cmd}(hm:zx w)(hc:wk c)(hp:c.P<=w.players)(hk:c.K=1)(h:spE w c=0):zx (spW w c):=by
 have hn:¬Ls w:=λhf=>by simp_all[spE]
 have hcl:xi w 0 c.N (c.X,c.Y):=Classical.byContradiction λhh=>by simp_all[spE]
 unfold Ls at hn
 have hn1:w.U.length<4096:=by omega
 have hn2:w.next<1099511627776:=by omega
 obtain⟨⟨hh,hr,hu⟩,hcc,hd⟩:=hm
 have hg:=hh.2.1.1
 have hN:=((Cmd.ok1 hk).1 hc.1).1
 have hl:(w.U++[spU w c]).length=w.U.length+1:=by rw[Fad];rfl
 have hnx:=hh.1.2.2.1
 have upu:∀v,xw w v->xw (spW w c) v:=λv hv=>⟨⟨⟨hv.1.1.1,by show v.id<w.next+1;have:=hv.1.1.2;omega⟩,hv.1.2⟩,hv.2⟩
 have hin:∀id,id≠0->yd (w.U++[spU w c]) id=yd w.U id:=λid hid=>by grind[yd,spU]
 refine⟨⟨⟨⟨hh.1.1,hh.1.2.1,by show 1<=w.next+1/\w.next+1<=_;omega⟩,⟨hg,hh.2.1.2.1,by show(w.U++[spU w c]).length<=_;omega⟩,λb hb=>⟨(hh.2.2 b hb).1,by show b.id<w.next+1;have:=(hh.2.2 b hb).2;omega⟩⟩,?_,λv hv=>?_⟩,λv hv h0=>?_,λv hv h0=>?_⟩
 ·exact zts hr λu hu2=>(hu u hu2).1.1.1.2
 ·rcases Lq hv with hv|rfl
  ·exact⟨upu v (hu v hv).1,(hu v hv).2⟩
  ·refine⟨⟨⟨⟨hnx,by show w.next<w.next+1;omega⟩,⟨hc.2.1.1,hp⟩,hN⟩,⟨.inl rfl,.inl rfl,by show(0:Int)<=0/\(0:Int)<8;decide⟩,⟨by show(0:Int)<=0/\(0:Int)<=4;decide,⟨λe=>absurd (show(0:Int)=1 from e) (by decide),λe=>absurd rfl e⟩⟩,λ_=>⟨rfl,rfl⟩⟩,λb hb=>?_⟩
   have:=(hh.2.2 b hb).2
   show b.id≠w.next
   omega
 ·rcases Lq hv with hv|rfl
  ·have hv0:=hcc v hv h0
   refine⟨hv0.1,λx hx hx0 hxi=>?_⟩
   rcases Lq hx with hx|rfl
   ·exact hv0.2 x hx hx0 hxi
   ·have:=hcl.2 v hv h0 (by have:=(hu v hv).1.1.1.1;omega)
    rw[tn hg hcl.1 hv0.1]at this
    exact this
  ·refine⟨hcl.1,λx hx hx0 hxi=>?_⟩
   rcases Lq hx with hx|rfl
   ·exact hcl.2 x hx hx0 (by have:=(hu x hx).1.1.1.1;omega)
   ·exact absurd rfl hxi
 ·rcases Lq hv with hv|rfl
  ·obtain⟨x,hx,g1,g2,g3,g4⟩:=hd v hv h0
   exact⟨x,List.mem_append_left _ hx,g1,g2,by show((yd (w.U++[spU w c]) _).length:Int)<=_;rw[hin _ h0];exact g3,g4⟩
  ·exact absurd rfl h0
theorem o9{g:Gnd}{l l':List Bld}{c:Int}{p:Vc}{r:Int}(hf:Ak g l c p r)(h:∀t,t<g.T.length->yf g l' c t=false->yf g l c t=false\/¬wj g t p r):Ak g l' c p r:=
 ⟨hf.1,λt ht ho hh=>by
  rcases h t ht ho with e|e
  ·exact hf.2 t ht e hh
  ·exact e hh⟩
theorem m7(hm:zx w){B:List Bld}{next:Int}(hnx:w.next<=next/\next<=1099511627776)(hb:Hm w.G B)(hb2:∀b∈B,b.owner<=w.players/\b.id<next)(hb3:∀b∈B,∀u∈w.U,b.id≠u.id)
  (hf:∀u∈w.U,u.inn=0->Ak w.G B (qa u.kind) u.pos (zq u.kind)):zx {w with B:=B,next:=next}:=by
 obtain⟨⟨hh,hr,hu⟩,hcc,hd⟩:=hm
 have hn1:=hh.1.2.2.1
 refine⟨⟨⟨⟨hh.1.1,hh.1.2.1,by grind⟩,⟨hh.2.1.1,hb,hh.2.1.2.2⟩,hb2⟩,hr,λv hv=>⟨?_,λb hb=>hb3 b hb v hv⟩⟩,λv hv h0=>⟨hf v hv h0,(hcc v hv h0).2⟩,hd⟩
 have hv0:=(hu v hv).1
 exact⟨⟨⟨hv0.1.1.1,by show v.id<next;have:=hv0.1.1.2;omega⟩,hv0.1.2⟩,hv0.2⟩
theorem zxb{c:Cmd}(hm:zx w)(hc:wk c)(hp:c.P<=w.players)(hk:c.K=4)(h:bdE w c=0):zx (bdW w c):=by
 unfold bdE at h
 have c1:0<=c.T/\c.T<w.G.W*w.G.H:=Classical.byContradiction λhh=>by rw[if_pos hh]at h;cases h
 rw[if_neg (not_not_intro c1)]at h
 have c2:¬1099511627776<=w.next:=λhh=>by rw[if_pos hh]at h;cases h
 rw[if_neg c2]at h
 have c3:Ns w.G w.B (bdB w c)=0:=Classical.byContradiction λhh=>by grind
 rw[if_pos c3]at h
 have c4:¬mw w (bdB w c):=λhh=>by rw[if_pos hh]at h;cases h
 unfold Ns at c3
 have d1:onP w.G (bdB w c):=Classical.byContradiction λhh=>by grind
 rw[if_neg (not_not_intro d1)]at c3
 have d2:¬∃x∈w.B,Bz x (bdB w c):=λhh=>by grind
 rw[if_neg d2]at c3
 have d3:D2 w.G (bdB w c):=Classical.byContradiction λhh=>by grind
 rw[if_neg (not_not_intro d3)]at c3
 have d4:¬256<=w.B.length:=λhh=>by grind
 have hsz:=((Cmd.ok4 hk).1 hc.1).2
 have hh:=hm.1.1
 have hnx:=hh.1.2.2.1
 have hbl:=hh.2.1.2.1
 have ha:=qr hh.2.1.1
 have mem:∀b∈w.B++[bdB w c],b∈w.B\/b=bdB w c:=λb hb=>by grind
 have hl:(w.B++[bdB w c]).length=w.B.length+1:=by rw[Fad];rfl
 refine m7 hm (B:=w.B++[bdB w c]) (next:=w.next+1) ⟨by omega,by omega⟩ ⟨by omega,?_,λb hb=>?_,?_⟩ (λb hb=>?_) (λb hb u hu=>?_) (λu hu h0=>?_)
 ·intro j hj h0
  have hj2:j<w.B.length+1:=by rw[<-hl];exact hj
  by_cases e:j<w.B.length
  ·rw[Fbg (by omega),Fbg e]
   exact hbl.2.1 j e h0
  ·have ej:j=w.B.length:=by omega
   subst ej
   rw[Fbg (by omega),Fcv (Fah _)]
   simp only[Nat.sub_self,Fc3]
   exact(hh.2.2 _ (Faa (by omega))).2
 ·rcases mem b hb with hb|rfl
  ·exact hbl.2.2.1 b hb
  ·exact⟨⟨⟨hnx,by show w.next<=_;omega⟩,⟨hc.2.1.1,hc.2.1.2⟩,hsz⟩,d1,d3⟩
 ·intro j hj i hij
  have hj2:j<w.B.length+1:=by rw[<-hl];exact hj
  by_cases e:j<w.B.length
  ·rw[Fbg e,Fbg (by omega)]
   exact hbl.2.2.2 j e i hij
  ·have ej:j=w.B.length:=by omega
   subst ej
   rw[Fcv (Fah _),Fbg (by omega)]
   simp only[Nat.sub_self,Fc3]
   grind[List.getElem_mem,Bz]
 ·rcases mem b hb with hb|rfl
  ·have:=hh.2.2 b hb;exact⟨this.1,by omega⟩
  ·exact⟨hp,by show w.next<w.next+1;omega⟩
 ·rcases mem b hb with hb|rfl
  ·exact(hm.1.2.2 u hu).2 b hb
  ·have:=(hm.1.2.2 u hu).1.1.1.2
   show w.next≠u.id
   omega
 ·refine o9 (hm.2.1 u hu h0).1 (λt ht ho=>?_)
  by_cases hb:Aj w.G (bdB w c) t
  ·exact .inr λhit=>c4 ⟨t,⟨by omega,hb⟩,u,hu,h0,hit⟩
  grind[yf,xn]
theorem zw9{c:Cmd}(hm:zx w):zx (drW w c):=by
 unfold drW
 cases hf:Pa w.B c.N with
 |none=>exact hm
 |some i=>
  have hh:=hm.1.1
  have hbl:=hh.2.1.2.1
  have hil:i<w.B.length:=by grind[Pa,List.findIdx?_eq_some_iff_getElem]
  have hlen:(w.B.eraseIdx i).length=w.B.length-1:=List.length_eraseIdx_of_lt hil
  have sub:∀b∈w.B.eraseIdx i,b∈w.B:=λb hb=>List.mem_of_mem_eraseIdx hb
  have get:∀j,(hj:j<(w.B.eraseIdx i).length)->(w.B.eraseIdx i)[j]=if h:j<i then w.B[j]'(by omega)else w.B[j+1]'(by omega):=λj hj=>List.getElem_eraseIdx ..
  have up:∀a b,(ha:a<b)->(hb:b<w.B.length)->(w.B[a]'(by omega)).id<w.B[b].id:=λa b hab=>by
   induction b with
   |zero=>omega
   |succ b ih=>
    intro hb
    have h1:=hbl.2.1 (b+1) hb (by omega)
    grind
  have hnx:=hh.1.2.2
  refine m7 hm (B:=w.B.eraseIdx i) (next:=w.next) ⟨by omega,by omega⟩ ⟨by have:=hbl.1;omega,?_,λb hb=>hbl.2.2.1 b (sub b hb),?_⟩ (λb hb=>hh.2.2 b (sub b hb)) (λb hb u hu=>(hm.1.2.2 u hu).2 b (sub b hb)) (λu hu h0=>?_)
  ·intro j hj h0
   rw[get _ (by omega),get _ hj]
   split
   ·split
    ·exact up _ _ (by omega) _
    ·exact up _ _ (by omega) _
   ·rw[dif_neg (by omega)]
    exact up _ _ (by omega) _
  ·intro j hj k hkj
   rw[get _ hj,get _ (by omega)]
   split
   ·rw[dif_pos (by omega)]
    exact hbl.2.2.2 _ _ _ (by omega)
   ·split
    ·exact hbl.2.2.2 _ _ _ (by omega)
    ·exact hbl.2.2.2 _ _ _ (by omega)
  ·refine o9 (hm.2.1 u hu h0).1 (λt ht ho=>.inl ?_)
   grind[yf,xn]
end
section
variable {w:Wld} {j:Nat}
theorem tb(hr:yi w.U){P id:Int}(h:ve w P id=0)(hj:j<w.U.length)(hid:w.U[j].id=id):w.U[j].owner=P/\w.U[j].inn=0:=by
 obtain⟨i,hi,hf,e,_,e2,e3⟩:=ce h
 have:=pt hr hj hid
 grind
theorem Ku{l:List Int}{g:Unt->Unt}{U:List Unt}(hj:j<U.length):(xl l g U)[j]'(by rw[H2];exact hj)=if U[j].id∈l then g U[j]else U[j]:=gj hj
theorem zw1{c:Cmd}(hm:zx w)(h:stE w c=0):zx (stW w c):=by
 have hz:=Pz (show allE (ve w c.P) c.U=0 from h)
 have hr:=hm.1.2.1
 refine Vw hm (U:=xl c.U Sl w.U) (H2 _ _ _) (λj hj=>?_) (λj hj h0=>?_) (λj hj=>?_)
 ·rw[Ku hj]
  split<;>rfl
 ·rw[Ku hj]
  split
  ·rename_i e
   exact absurd (tb hr (hz _ e) hj rfl).2 h0
  ·rfl
 ·rw[Ku hj]
  have hu:=(hm.1.2.2 _ (Faa hj)).1
  split
  ·exact⟨hu.1,⟨.inl rfl,.inl rfl,by show(0:Int)<=0/\(0:Int)<8;decide⟩,⟨by show(0:Int)<=0/\(0:Int)<=4;decide,⟨λe=>absurd (show(0:Int)=1 from e) (by decide),λe=>absurd rfl e⟩⟩,λ_=>⟨rfl,rfl⟩⟩
  ·exact hu
theorem zwj{c:Cmd}(hg:zp w.G)(ht:0<=c.T/\c.T<w.G.W*w.G.H)(k:Nat)(kd:Int):0<=Cy w c k kd/\Cy w c k kd<w.G.W*w.G.H:=by
 have ha:=qr hg
 by_cases h:k<(Fh w kd c.T c.U.length).length
 ·rw[zwi h]
  have:=(f9 (Faa h)).1
  omega
 ·rw[zwk h];exact ht
theorem mn{c:Cmd}(hm:zx w)(ht:0<=c.T/\c.T<w.G.W*w.G.H)(hz:∀a∈c.U,ve w c.P a=0):∀k,k<=c.U.length->∀j,(hj:j<w.U.length)->(w.U[j].inn≠0->(mvL w c k)[j]'(by rw[Fm];exact hj)=w.U[j])/\xw w ((mvL w c k)[j]'(by rw[Fm];exact hj))
 |0,_,j,hj=>⟨λ_=>rfl,(hm.1.2.2 _ (Faa hj)).1⟩
 |k+1,hk,j,hj=>by
  have ih:=mn hm ht hz k (by omega) j hj
  have hlt:k<c.U.length:=by omega
  have hr:=hm.1.2.1
  obtain⟨i,hi,hf,hid,_,how,hin⟩:=ce (hz c.U[k] (Faa hlt))
  have hgo:=zwj hm.1.1.2.1.1 ht k w.U[i].kind
  have key:∀L:List Unt,(hL:j<L.length)->L=mvL w c (k+1)->(w.U[j].inn≠0->L[j]=w.U[j])/\xw w L[j]:=λL hL e=>by
   rw[zwg hlt hf hi]at e
   subst e
   rw[Fcm]
   split
   ·rename_i e3
    subst e3
    have hu:=(hm.1.2.2 _ (Faa hi)).1
    refine⟨λh0=>absurd hin h0,hu.1,⟨.inr hgo,.inl rfl,by show(0:Int)<=0/\(0:Int)<8;decide⟩,⟨by show(0:Int)<=1/\(1:Int)<=4;decide,⟨λ_=>?_,λ_=>rfl⟩⟩,λe=>?_⟩
    ·show Cy w c k w.U[i].kind≠-1
     omega
    trivial
   ·exact ih
  grind
theorem zw5{c:Cmd}(hm:zx w)(h:mvE w c=0):zx (mvW w c):=by
 have ht:0<=c.T/\c.T<w.G.W*w.G.H:=Classical.byContradiction λhh=>by rw[zwm hh]at h;cases h
 rw[zwl ht]at h
 have hz:=Pz h
 have key:=mn hm ht hz c.U.length (Fah _)
 exact Vw hm (U:=mvL w c c.U.length) (Fm _ _ _) (λj hj=>Vq w c _ j hj) (λj hj=>(key j hj).1) (λj hj=>(key j hj).2)
theorem zyr{U:List Unt}(hr:yi U):(U.map (·.id)).Nodup:=by
 rw[List.Nodup,Fb5]
 intro a b ha hb hab
 rw[Fa8]at ha hb
 rw[Fb9,Fb9]
 have:=Cp hr hab hb
 omega
theorem ycg{U:List Unt}(hr:yi U)(l:List Int):(U.filter λu=>decide (u.id∈l)).length<=l.length:=by
 have h1:((U.filter λu=>decide (u.id∈l)).map (·.id)).Nodup:=(zyr hr).sublist ((List.filter_sublist).map _)
 have:=Fbh (l₂:=l) h1 (λid hid=>by grind)
 rw[Fa8]at this
 exact this
theorem ny(l:List Int)(n:Int)(M:Int):∀U:List Unt,(yd (xl l (ldU n) U) M).length<=(yd U M).length+(if M=n then(U.filter λu=>decide (u.id∈l)).length else 0)
 |[]=>by simp[yd,xl]
 |a::U=>by
  have ih:=ny l n M U
  unfold yd xl at ih⊢
  simp only[Fa8]at ih⊢
  rw[Fb0,Fcw,Fcw,Fcw]
  by_cases e:a.id∈l
  ·simp only[if_pos e,decide_eq_true e,if_true,Fbd]
   by_cases eM:M=n
   ·grind
   ·simp only[if_neg eM]at ih⊢
    have:((ldU n a).inn==M)=false:=by show(n==M)=false;simpa using λe=>eM e.symm
    grind
  grind
theorem zw6{c:Cmd}(hm:zx w)(hN:1<=c.N)(h:ldE w c=0):zx (ldW w c):=by
 unfold ldE at h
 have c1:Hk w c.P c.N=0:=Classical.byContradiction λhh=>by grind
 rw[if_pos c1]at h
 have c2:allE (ldA w c.P c.N) c.U=0:=Classical.byContradiction λhh=>by grind
 rw[if_pos c2]at h
 have c3:¬xz (uAt w c.N).kind<((yd w.U c.N).length:Int)+(c.U.length:Int):=λhh=>by rw[if_pos hh]at h;cases h
 obtain⟨hask,hroom⟩:=yc9 c1
 obtain⟨ix,hix,hfx,hidx,hux,hox,hinx⟩:=ce hask
 rw[hux]at hroom c3
 have hz:=Pz c2
 obtain⟨⟨hh,hr,hu⟩,hcc,hd⟩:=hm
 -- who is loaded is on the field,of the same player,and carries nobody
 have ld:∀j,(hj:j<w.U.length)->w.U[j].id∈c.U->w.U[j].owner=c.P/\w.U[j].inn=0/\xz w.U[j].kind=0:=λj hj hid=>by
  obtain⟨a1,a2⟩:=zxt (hz _ hid)
  obtain⟨b1,b2⟩:=tb hr a1 hj rfl
  refine⟨b1,b2,?_⟩
  have e:uAt w w.U[j].id=w.U[j]:=(d9 (pt hr hj rfl)).2.2
  rw[e]at a2
  unfold Vt at a2
  have:¬0<xz w.U[j].kind:=λhh=>by grind
  have:=V7 w.U[j].kind
  omega
 have hxl:w.U[ix].id∉c.U:=λe=>hroom (ld ix hix e).2.2
 have hl:(xl c.U (ldU c.N) w.U).length=w.U.length:=H2 _ _ _
 have back:∀v∈xl c.U (ldU c.N) w.U,∃j,∃hj:j<w.U.length,(w.U[j].id∈c.U/\v=ldU c.N w.U[j])\/(w.U[j].id∉c.U/\v=w.U[j]):=λv hv=>by
  obtain⟨j,hj,rfl⟩:=Faj hv
  rw[hl]at hj
  refine⟨j,hj,?_⟩
  rw[Ku hj]
  grind
 have stay:∀j,(hj:j<w.U.length)->w.U[j].id∉c.U->w.U[j]∈xl c.U (ldU c.N) w.U:=λj hj e=>by
  have:(xl c.U (ldU c.N) w.U)[j]'(by rw[hl];exact hj)=w.U[j]:=by rw[Ku hj,if_neg e]
  grind
 have cnt:=λM=>ny c.U c.N M w.U
 have cin:=ycg hr c.U
 have cN:((yd (xl c.U (ldU c.N) w.U) c.N).length:Int)<=xz w.U[ix].kind:=by grind
 refine⟨⟨⟨hh.1,⟨hh.2.1.1,hh.2.1.2.1,by show(xl c.U (ldU c.N) w.U).length<=_;rw[hl];exact hh.2.1.2.2⟩,hh.2.2⟩,zqa (g:=ldU c.N) (λ_=>rfl) hr,λv hv=>?_⟩,λv hv h0=>?_,λv hv h0=>?_⟩
 ·obtain⟨j,hj,⟨e,rfl⟩|⟨e,rfl⟩⟩:=back v hv
  ·have hu0:=hu _ (Faa hj)
   exact⟨⟨hu0.1.1,⟨.inl rfl,.inl rfl,by show(0:Int)<=0/\(0:Int)<8;decide⟩,⟨by show(0:Int)<=0/\(0:Int)<=4;decide,⟨λe=>absurd (show(0:Int)=1 from e) (by decide),λe=>absurd rfl e⟩⟩,λ_=>⟨rfl,rfl⟩⟩,hu0.2⟩
  ·exact hu _ (Faa hj)
 ·obtain⟨j,hj,⟨e,rfl⟩|⟨e,rfl⟩⟩:=back v hv
  ·have h0:c.N=0:=h0
   omega
  ·refine bh (w:=w) rfl rfl (λx hx hx0 hxi=>?_) (hcc _ (Faa hj) h0)
   obtain⟨k,hk,⟨e2,rfl⟩|⟨e2,rfl⟩⟩:=back x hx
   ·have hx0:c.N=0:=hx0
    omega
   grind
 ·obtain⟨j,hj,⟨e,rfl⟩|⟨e,rfl⟩⟩:=back v hv
  ·obtain⟨l1,l2,l3⟩:=ld j hj e
   refine⟨w.U[ix],stay ix hix hxl,hidx,⟨hinx,?_⟩,cN,l3,rfl,rfl,rfl⟩
   show w.U[ix].owner=w.U[j].owner
   rw[hox,l1]
  ·obtain⟨x,hx,g1,g2,g3,g4⟩:=hd _ (Faa hj) h0
   obtain⟨k,hk,rfl⟩:=Faj hx
   have hne:0<(yd w.U w.U[j].inn).length:=List.length_pos_iff.2 (List.ne_nil_of_mem (zyj (Faa hj)))
   have hkl:w.U[k].id∉c.U:=λe2=>by grind
   refine⟨w.U[k],stay k hk hkl,g1,g2,?_,g4⟩
   show((yd (xl c.U (ldU c.N) w.U) w.U[j].inn).length:Int)<=_
   by_cases eN:w.U[j].inn=c.N
   ·grind[Gu]
   grind
theorem zxa{c:Cmd}(h:doE aE w c=0):zx (aW w c):=by
 obtain⟨hm,hc,hp,he⟩:=rd h
 rcases ni hc with k|k|k|k|k|k|k
 ·grind[a1,zw3]
 ·grind[a2,zw5]
 ·grind[a3,zw1]
 ·grind[a4,zxb]
 ·rw[(a5 k).2]
  exact zw9 hm
 ·rw[(a6 k).1]at he
  rw[(a6 k).2]
  exact zw6 hm ((Cmd.ok6 k).1 hc.1).2.1 he
 ·rw[(a7 k).2]
  unfold ulW
  cases hu:unl c.T (yd w.U c.N) w with
  |none=>exact hm
  |some x=>exact mz _ _ _ hm hu
end
section
variable {w:Wld}
theorem lk(h:playW w)(c:Cmd):playW (doW aE aW w c):=by
 by_cases he:doE aE w c=0
 ·rw[ybo he]
  exact⟨zxa he,yfa h.2 he⟩
 ·rw[ybp he]
  exact h
noncomputable def xr(w:Wld):List Cmd->Wld
 |[]=>w
 |c::l=>xr (doW aE aW w c) l
noncomputable def kc(w:Wld):List Cmd->List Int
 |[]=>[]
 |c::l=>doE aE w c::kc (doW aE aW w c) l
theorem rv:∀(l:List Cmd) (w:Wld) (m:List Cmd),xr w (l++m)=xr (xr w l) m/\kc w (l++m)=kc w l++kc (xr w l) m
 |[],_,_=>⟨rfl,rfl⟩
 |c::l,w,m=>by
  obtain⟨h1,h2⟩:=rv l (doW aE aW w c) m
  exact⟨h1,by show _::kc _ (l++m)=_;rw[h2];rfl⟩
theorem rx:∀(l:List Cmd) (w:Wld),(kc w l).length=l.length
 |[],_=>rfl
 |c::l,w=>by show(kc _ l).length+1=_;rw[rx l];rfl
theorem ycm{l:List Cmd}{i:Nat}(hi:i<l.length):xr w (l.take (i+1))=doW aE aW (xr w (l.take i)) l[i]/\kc w (l.take (i+1))=kc w (l.take i)++[doE aE (xr w (l.take i)) l[i]]:=by
 rw[Fac hi]
 obtain⟨h1,h2⟩:=rv (l.take i) w [l[i]]
 exact⟨h1,h2⟩
theorem Nw:∀(l:List Cmd) {w:Wld},playW w->playW (xr w l)
 |[],_,h=>h
 |c::l,w,h=>Nw l (lk h c)
theorem ye9(c:Cmd)(hr:yi w.U):(aW w c).tick=w.tick:=by
 unfold aW
 repeat' split
 ·rfl
 ·rfl
 ·rfl
 ·rfl
 ·exact(ybl w c).1
 ·rfl
 ·exact(d0 hr).1
theorem ybn(c:Cmd)(hr:yi w.U):(doW aE aW w c).tick=w.tick:=by
 unfold doW
 split
 ·exact ye9 c hr
 ·rfl
theorem bf:∀(l:List Cmd) {w:Wld},playW w->(xr w l).tick=w.tick
 |[],_,_=>rfl
 |c::l,w,h=>(bf l (lk h c)).trans (ybn c h.1.1.2.1)
theorem eh(w:Wld)(u:Unt)(v:Vc):(j4 w u v).tick=w.tick:=by
 unfold j4
 split<;>rfl
theorem fi(w:Wld)(u:Unt):(Az w u).tick=w.tick:=by
 unfold Az
 split
 ·exact eh _ _ _
 ·split<;>rfl
theorem za2(w:Wld)(u:Unt):(vn w u).tick=w.tick:=by
 unfold vn
 split
 ·exact eh _ _ _
 ·unfold Bk
  split
  ·rfl
  ·split
   ·split
    ·rfl
    ·exact fi _ _
   ·exact fi _ _
theorem Lp(w:Wld):∀i,(goN w i).tick=w.tick
 |0=>rfl
 |i+1=>by
  unfold goN
  split
  ·split
   ·exact(za2 _ _).trans (Lp w i)
   ·exact Lp w i
  ·exact Lp w i
noncomputable def R7(w:Wld):Wld:={xt w with tick:=(xt w).tick+1}
theorem zuy(h:playW w)(ht:w.tick<1099511627776):playW (R7 w):=by
 obtain⟨⟨⟨⟨hh,hu⟩,hc,hd⟩,hn⟩,_⟩:=yeo h
 have e:(xt w).tick=w.tick:=Lp w _
 have h1:=hh.1.1
 exact⟨⟨⟨⟨⟨⟨by show 0<=(xt w).tick+1;omega,by show(xt w).tick+1<=_;omega⟩,hh.1.2⟩,hh.2⟩,hu⟩,hc,hd⟩,hn⟩
noncomputable def Dd(w:Wld)(l:List Cmd):Wld:=R7 (xr w l)
theorem zuz(h:playW w)(ht:w.tick<1099511627776)(l:List Cmd):playW (Dd w l):=
 zuy (Nw l h) (by rw[bf l h];exact ht)
end
end Go.V
namespace Go.V
open Classical in
noncomputable def Lb(w:Wld)(l:List Cmd):Wld:=if w.tick=1099511627776 then w else Dd w l
open Classical in
noncomputable def Vk(w:Wld)(l:List Cmd):List Int:=if w.tick=1099511627776 then []else kc w l
open Classical in
noncomputable def Vl(w:Wld):Int:=if w.tick=1099511627776 then 10 else 0
theorem lz{w:Wld}(h:w.tick=1099511627776)(l:List Cmd):Lb w l=w/\Vk w l=[]/\Vl w=10:=⟨if_pos h,if_pos h,if_pos h⟩
theorem l4{w:Wld}(h:¬w.tick=1099511627776)(l:List Cmd):Lb w l=Dd w l/\Vk w l=kc w l/\Vl w=0:=⟨if_neg h,if_neg h,if_neg h⟩
structure Inp where
 t:Int
 p:Int
 C:List Cmd
 deriving DecidableEq
structure Nte where
 src:Int
 dst:Int
 inp:Inp
 done:Int
 hash:Int
 have_:Int
 deriving DecidableEq
structure Per where
 id:Int
 players:Int
 delay:Int
 turn:Int
 said:Int
 mine:List Inp
 inputs:List Inp
 has:List Int
 acked:List Int
 hashes:List Int
 split:Bool
 deriving DecidableEq
def yu(n:Int):List AV:=[u64 n]
def yy(i:Inp):List AV:=[int i.t,int i.p,lst 10 yo i.C]
def Vm(n:Nte):List AV:=[int n.src,int n.dst,int n.inp.t,int n.inp.p,lst 10 yo n.inp.C,int n.done,u64 n.hash,int n.have_]
def zz(p:Per):List AV:=[int p.id,int p.players,int p.delay,int p.turn,int p.said,lst 3 yy p.mine,lst 3 yy p.inputs,yg p.has,yg p.acked,lst 1 yu p.hashes,V.bool p.split]
def Inp.fits(i:Inp):Prop:=i.C.length<=1000000000/\∀c∈i.C,c.fits
abbrev maxT:Int:=1099511627776
def Sk(p:Int)(l:List Cmd):Prop:=(∀j,(hj:j<l.length)->wk l[j]/\l[j].P=p/\(0<j->(l[j-1]'(by omega)).S<l[j].S))/\l.length<=64
def Fw(i:Inp):Prop:=(0<=i.t/\i.t<=maxT)/\(1<=i.p/\i.p<=8)/\Sk i.p i.C
def Ft(a b:Inp):Prop:=a.t<b.t\/(a.t=b.t/\a.p<b.p)
instance(a b:Inp):Decidable (Ft a b):=by unfold Ft;infer_instance
def Nh(l:List Inp):Prop:=∀j,(hj:j<l.length)->Fw l[j]/\(0<j->Ft (l[j-1]'(by omega)) l[j])
def N6(a b:Inp):Int:=orZ [vy a.t b.t,vy a.p b.p]
theorem zvd(a b:Inp):N6 a b=if vy a.t b.t≠0 then vy a.t b.t else vy a.p b.p:=by
 unfold N6 orZ
 by_cases h:vy a.t b.t=0
 ·rw[List.find?_cons_of_neg (by simp[h]),if_neg (by simpa using h)]
  by_cases h2:vy a.p b.p=0
  ·rw[List.find?_cons_of_neg (by simp[h2]),h2];rfl
  ·rw[List.find?_cons_of_pos (by simp[h2])];rfl
 ·rw[List.find?_cons_of_pos (by simp[h]),if_pos h];rfl
theorem ordI_neg{a b:Inp}:N6 a b<0↔Ft a b:=by
 rw[zvd]
 unfold vy Ft
 repeat' split
 all_goals omega
theorem yep{w:World}{T T':Nat->Nat->Prop}(hT:∀b o,T' b o->T b o){cs:List AV}{k:Nat}{a a':AV}{x:Value}(h:VRel w T (.agg (cs.set k a)) x)(ha:∀y,VRel w T a y->VRel w T' a' y):VRel w T' (.agg (cs.set k a')) x:=by
 cases h with
 |agg _ c hl hc=>
  refine .agg _ c (by rw[Faw]at hl⊢;exact hl) λi y z hy hz=>?_
  by_cases e:k=i
  ·subst e
   have hk:k<cs.length:=by
    have:=(Faq.1 hy).1
    rw[Faw]at this;exact this
   rw[Fc4 hk]at hy
   cases hy
   exact ha z (hc k a z (by rw[Fc4 hk]) hz)
  ·rw[Fdi e]at hy
   exact(hc i y z (by rw[Fdi e];exact hy) hz).mono hT
def Af:List Int->Int
 |[]=>0
 |x::l=>l.foldl min x
def Cz:List Int->Int
 |[]=>0
 |x::l=>l.foldl max x
theorem zwr{l:List Int}{i:Nat}(h:i<l.length)(h1:1<=i):Af (l.take (i+1))=min (Af (l.take i)) l[i]:=by
 cases l with
 |nil=>simp at h
 |cons x l=>
  obtain⟨j,rfl⟩:∃j,i=j+1:=⟨i-1,by omega⟩
  have hj:j<l.length:=by simpa using h
  show(l.take (j+1)).foldl min x=min ((l.take j).foldl min x) l[j]
  rw[Fac hj,Fdt]
  rfl
theorem zxc{l:List Int}{i:Nat}(h:i<l.length)(h1:1<=i):Cz (l.take (i+1))=max (Cz (l.take i)) l[i]:=by
 cases l with
 |nil=>simp at h
 |cons x l=>
  obtain⟨j,rfl⟩:∃j,i=j+1:=⟨i-1,by omega⟩
  have hj:j<l.length:=by simpa using h
  show(l.take (j+1)).foldl max x=max ((l.take j).foldl max x) l[j]
  rw[Fac hj,Fdt]
  rfl
theorem zws{l:List Int}(h:0<l.length):Af (l.take 1)=l[0]:=by
 cases l with
 |nil=>simp at h
 |cons x l=>rfl
theorem zxd{l:List Int}(h:0<l.length):Cz (l.take 1)=l[0]:=by
 cases l with
 |nil=>simp at h
 |cons x l=>rfl
theorem zz9(x:Int)(l:List Int):l.foldl min x=x\/l.foldl min x∈l:=by
 induction l generalizing x with
 |nil=>exact .inl rfl
 |cons y l ih=>
  rcases ih (min x y)with h|h
  ·by_cases e:x<=y
   ·left;show l.foldl min (min x y)=x;rw[h];omega
   ·right;show l.foldl min (min x y)∈y::l;rw[h]
    have:min x y=y:=by omega
    rw[this];exact Fa6
  ·exact .inr (Fav _ h)
theorem yaa(x:Int)(l:List Int):l.foldl max x=x\/l.foldl max x∈l:=by
 induction l generalizing x with
 |nil=>exact .inl rfl
 |cons y l ih=>
  rcases ih (max x y)with h|h
  ·by_cases e:y<=x
   ·left;show l.foldl max (max x y)=x;rw[h];omega
   ·right;show l.foldl max (max x y)∈y::l;rw[h]
    have:max x y=y:=by omega
    rw[this];exact Fa6
  ·exact .inr (Fav _ h)
theorem mr{l:List Int}(h:0<l.length):Af l∈l:=by
 cases l with
 |nil=>simp at h
 |cons x l=>
  rcases zz9 x l with e|e
  ·show l.foldl min x∈x::l;rw[e];exact Fa6
  ·exact Fav _ e
theorem zxe{l:List Int}(h:0<l.length):Cz l∈l:=by
 cases l with
 |nil=>simp at h
 |cons x l=>
  rcases yaa x l with e|e
  ·show l.foldl max x∈x::l;rw[e];exact Fa6
  ·exact Fav _ e
def countsP(p:Per)(l:List Int):Prop:=(∀j,(hj:j<l.length)->p.delay-1<=l[j]/\l[j]<=p.turn+16/\l[j]<=maxT)/\(l.length:Int)=p.players/\∀h:(p.id-1).toNat<l.length,l[(p.id-1).toNat]=p.said
def Vu(p:Per):Prop:=(p.mine.length:Int)=p.said-Af p.acked/\∀j,(hj:j<p.mine.length)->Fw p.mine[j]/\p.mine[j].p=p.id/\p.mine[j].t=p.said-p.mine.length+1+j
def Wb(p:Per):Prop:=∀j,(hj:j<p.inputs.length)->p.turn<=p.inputs[j].t/\p.inputs[j].p<=p.players/\∀h:(p.inputs[j].p-1).toNat<p.has.length,p.inputs[j].t<=p.has[(p.inputs[j].p-1).toNat]
def Mb(p:Per):Prop:=(1<=p.players/\p.players<=8)/\(1<=p.id/\p.id<=p.players)/\(1<=p.delay/\p.delay<=8)/\(0<=p.turn/\p.turn<=maxT)
def wg(p:Per):Prop:=Mb p/\(p.delay-1<=p.said/\p.said<=p.turn+p.delay-1/\p.said<=maxT)/\countsP p p.has/\countsP p p.acked/\p.turn-1<=Af p.has/\Cz p.acked<=p.said/\p.hashes.length<=16/\(p.hashes.length:Int)<=p.turn/\Vu p/\Nh p.inputs/\Wb p
def Per.fits(p:Per):Prop:=(p.mine.length<=1000000000/\∀i∈p.mine,i.fits)/\(p.inputs.length<=1000000000/\∀i∈p.inputs,i.fits)/\p.has.length<=1000000000/\p.acked.length<=1000000000/\p.hashes.length<=1000000000
theorem countsP.mem{p:Per}{l:List Int}(h:countsP p l){x:Int}(hx:x∈l):p.delay-1<=x/\x<=p.turn+16/\x<=1099511627776:=by
 obtain⟨j,hj,rfl⟩:=List.mem_iff_getElem.1 hx
 exact h.1 j hj
theorem xh{a b:Store}(h:zg a b):zg b a:=λi h1 h2=>h i h2 h1
theorem unE(a:Store):Store.empty.un a=a:=by
 obtain⟨o,t⟩:=a
 unfold Store.un
 congr 1
 ·funext i;cases h:o i<;>simp[h,Store.empty]
 ·funext i;cases h:t i<;>simp[h,Store.empty]
theorem unA(a b c:Store):(a.un b).un c=a.un (b.un c):=by
 unfold Store.un
 congr 1
 ·funext i;cases h:c.obj i<;>simp[h]
 ·funext i;cases h:c.tok i<;>simp[h]
theorem unC{a b:Store}(h:zg a b):a.un b=b.un a:=by
 unfold Store.un
 congr 1
 ·funext i
  cases h1:a.obj i with
  |none=>cases h2:b.obj i<;>simp[h1,h2]
  |some x=>have:=(kz (h i (k9 h1))).1;simp[h1,this]
 ·funext i
  cases h1:a.tok i with
  |none=>cases h2:b.tok i<;>simp[h1,h2]
  |some x=>have:=(kz (h i (Lo h1))).2;simp[h1,this]
theorem disjU{a b c:Store}:zg (a.un b) c↔zg a c/\zg b c:=by
 refine⟨λh=>⟨λi h1=>h i (un_has.2 (.inl h1)),λi h1=>h i (un_has.2 (.inr h1))⟩,λ⟨h1,h2⟩ i h=>(un_has.1 h).elim (h1 i) (h2 i)⟩
theorem L5(a:Store):zg Store.empty a:=λb hb=>(hb.elim (λh=>h rfl) (λh=>h rfl):False).elim
def Sp:List (Store->Prop)->Store->Prop
 |[],S=>S=Store.empty
 |P::l,S=>∃a b,S=a.un b/\zg a b/\P a/\Sp l b
def Foc(P:Store->Prop)(K:(Store->Prop)->Store->Prop)(S:Store):Prop:=∃a g,S=a.un g/\zg a g/\P a/\∀Q a',Q a'->zg a' g->K Q (a'.un g)
theorem Sp.at{P:Store->Prop}:∀{l:List (Store->Prop)} {S:Store} (i:Nat),l[i]?=some P->Sp l S->Foc P (λQ=>Sp (l.set i Q)) S
 |R::l,S,0,hi,⟨a,b,e,hd,hP,hl⟩=>by
  cases hi
  exact⟨a,b,e,hd,hP,λQ a' hQ hd'=>⟨a',b,rfl,hd',hQ,hl⟩⟩
 |R::l,S,i+1,hi,⟨a,b,e,hd,hP,hl⟩=>by
  obtain⟨c,g,rfl,hd2,h3,h4⟩:=Sp.at i (show l[i]?=some P from hi) hl
  obtain⟨d1,d2⟩:=disjU.1 (xh hd)
  refine⟨c,a.un g,by rw[e,<-unA,unC (xh d1),unA],xh (disjU.2 ⟨xh d1,xh hd2⟩),h3,λQ a' hQ hd'=>?_⟩
  obtain⟨d3,d4⟩:=disjU.1 (xh hd')
  exact⟨a,a'.un g,by rw[<-unA,unC (xh d3),unA],xh (disjU.2 ⟨xh d3,d2⟩),hP,h4 Q a' hQ (xh d4)⟩
theorem Foc.at{P:Store->Prop}{K:(Store->Prop)->Store->Prop}{m:List (Store->Prop)}{S:Store}(h:Foc (Sp m) K S)(j:Nat)(hj:m[j]?=some P):Foc P (λQ=>K (Sp (m.set j Q))) S:=by
 obtain⟨a,g,rfl,hd,hP,hK⟩:=h
 obtain⟨c,e,rfl,hd2,h3,h4⟩:=hP.at j hj
 obtain⟨d1,d2⟩:=disjU.1 hd
 refine⟨c,e.un g,unA _ _ _,xh (disjU.2 ⟨xh hd2,xh d1⟩),h3,λQ a' hQ hd'=>?_⟩
 obtain⟨d3,d4⟩:=disjU.1 (xh hd')
 rw[<-unA]
 exact hK _ _ (h4 Q a' hQ (xh d3)) (disjU.2 ⟨xh d4,d2⟩)
theorem Foc.same{P:Store->Prop}{K:(Store->Prop)->Store->Prop}{S:Store}(h:Foc P K S){Q:Store->Prop}(hq:∀a,P a->Q a):K Q S:=by
 obtain⟨a,g,rfl,hd,hP,hK⟩:=h
 exact hK Q a (hq a hP) hd
theorem Foc.call{P:Store->Prop}{K:(Store->Prop)->Store->Prop}{S:Store}{Pr:Program}{f:FuncId}{xs:List AV}{T R:Ja}(h:Foc P K S)(hc:∀a,P a->ACalls Pr f xs a T)(hR:∀r a',T r a'->∀S',(∀Q:Store->Prop,Q a'->K Q S')->R r S'):ACalls Pr f xs S R:=by
 obtain⟨a,g,rfl,hd,hP,hK⟩:=h
 exact ACalls.frame hd (hc a hP) λr a' ht hd'=>hR r a' ht _ λQ hq=>hK Q a' hq hd'
theorem Foc.look{P:Store->Prop}{K:(Store->Prop)->Store->Prop}{S:Store}{Pr:Program}{f:FuncId}{xs:List AV}{R:Ja}(h:Foc P K S)(r:AV)(hc:∀a,P a->∀T:AV->Store->Prop,T r a->ACalls Pr f xs a T)(hR:R r S):ACalls Pr f xs S R:=by
 obtain⟨a,g,rfl,hd,hP,hK⟩:=h
 refine ACalls.frame hd (hc a hP (λx a'=>x=r/\a'=a) ⟨rfl,rfl⟩) λx a' ⟨h1,h2⟩ _=>?_
 subst h1 h2
 exact hR
theorem Sp.allE:∀{l:List (Store->Prop)},(∀P∈l,P Store.empty)->Sp l Store.empty
 |[],_=>rfl
 |P::l,h=>⟨Store.empty,Store.empty,rfl,L5 _,h P Fa6,Sp.allE λQ hq=>h Q (Fav _ hq)⟩
theorem Sp.none{l:List (Store->Prop)}{P:Store->Prop}{S:Store}(hP:P Store.empty)(h:Sp l S):Sp (P::l) S:=⟨Store.empty,S,(unE S).symm,L5 S,hP,h⟩
def kk(q:Nat)(l:List AV)(a:Store):Prop:=a=Store.empty.sO q (.cells l)
theorem boxHas{q i:Nat}{x:AObj}:(Store.empty.sO q x).has i↔i=q:=by
 unfold Store.has Store.sO Store.empty
 by_cases e:i=q
 ·simp[e]
 ·simp[ym e,e]
section
variable {K:(Store->Prop)->Store->Prop} {S:Store} {q:Nat} {cs:List AV}
theorem Foc.obj(h:Foc (kk q cs) K S):S.obj q=some (.cells cs):=by
 obtain⟨a,g,rfl,hd,rfl,hK⟩:=h
 exact yr hd (zc _ _ _)
theorem Foc.store(h:Foc (kk q cs) K S)(ds:List AV):K (kk q ds) (S.sO q (.cells ds)):=by
 obtain⟨a,g,rfl,hd,rfl,hK⟩:=h
 have hg:¬g.has q:=hd q (boxHas.2 rfl)
 have e:(Store.sO (Store.un (Store.empty.sO q (.cells cs)) g) q (.cells ds))=(Store.empty.sO q (.cells ds)).un g:=by
  rw[Gf hg,yl]
 rw[e]
 exact hK _ _ rfl λi h1 h2=>hg (by rw[boxHas.1 h1]at h2;exact h2)
end
theorem Sp.new{l:List (Store->Prop)}{S:Store}(h:Sp l S){q:Nat}(hq:Fresh S q)(cs:List AV):Sp (kk q cs::l) (S.sO q (.cells cs)):=by
 have hn:=fresh_iff.1 hq
 refine⟨_,S,?_,λi h1 h2=>hn (by rw[boxHas.1 h1]at h2;exact h2),rfl,h⟩
 conv=>lhs;rw[<-unE S]
 exact Gf hn
theorem Sp.last:∀{l:List (Store->Prop)} {P:Store->Prop} {a S:Store},P a->Sp l S->zg a S->Sp (l++[P]) (a.un S)
 |[],P,a,S,hP,h,hd=>by
  have e:S=Store.empty:=h
  subst e
  exact⟨a,_,rfl,hd,hP,rfl⟩
 |Q::l,P,a,S,hP,⟨b,c,e,hd2,hQ,hl⟩,hd=>by
  subst e
  obtain⟨d1,d2⟩:=disjU.1 (xh hd)
  exact⟨b,a.un c,by rw[<-unA,unC (xh d1),unA],xh (disjU.2 ⟨xh d1,xh hd2⟩),hQ,Sp.last hP hl (xh d2)⟩
theorem Foc.last{m:List (Store->Prop)}{K:(Store->Prop)->Store->Prop}{P:Store->Prop}{a S:Store}(h:Foc (Sp m) K S)(hP:P a)(hd:zg a S):K (Sp (m++[P])) (a.un S):=by
 obtain⟨b,g,rfl,hd2,hm,hK⟩:=h
 obtain⟨d1,d2⟩:=disjU.1 (xh hd)
 rw[<-unA]
 exact hK _ _ (Sp.last hP hm (xh d1)) (disjU.2 ⟨xh d2,hd2⟩)
theorem Foc.box{m:List (Store->Prop)}{K:(Store->Prop)->Store->Prop}{S:Store}(h:Foc (Sp m) K S){q:Nat}(hq:Fresh S q)(cs:List AV):K (Sp (m++[kk q cs])) (S.sO q (.cells cs)):=by
 have hn:=fresh_iff.1 hq
 have e:S.sO q (.cells cs)=(Store.empty.sO q (.cells cs)).un S:=by
  conv=>lhs;rw[<-unE S]
  exact Gf hn
 rw[e]
 exact h.last rfl λi h1 h2=>hn (by rw[boxHas.1 h1]at h2;exact h2)
def TokR(k:Nat)(v:AV)(l:List (List AV))(a:Store):Prop:=(l=[]/\v=.s (.slice none 0 0)/\a=Store.empty)\/(l≠[]/\∃t,v=.lst k l (some t)/\a=Store.empty.sT t (some (l.length*k)))
theorem tokHas{t i:Nat}{n:Nat}:(Store.empty.sT t (some n)).has i↔i=t:=by
 unfold Store.has Store.sT Store.empty
 by_cases e:i=t
 ·simp[e]
 ·simp[ym e,e]
theorem TokR.nil(k:Nat):TokR k (.s (.slice none 0 0)) [] Store.empty:=.inl ⟨rfl,rfl,rfl⟩
theorem Foc.app{P:Program}{c:Cfg}{e:TypeId}{ie:TI}(hie:c.I e=some ie)(h0:Nat.blt 0 ie.size=true){K:(Store->Prop)->Store->Prop}{S:Store}{v:AV}{l:List (List AV)}(h:Foc (TokR ie.size v l) K S)
  {x:AV} {rows:List (List AV)} (hx:jv ie.size (.av x)=some rows) (hne:rows≠[]) (hroom:room (l++rows).length ie.bytes) {L:Ja}
  (hL:∀b S',K (TokR ie.size (.lst ie.size (l++rows) (some b)) (l++rows)) S'->L (.lst ie.size (l++rows) (some b)) S'):appendK P c S e (.av v) (.av x) L:=by
 obtain⟨a,g,rfl,hd,ht,hK⟩:=h
 have key:∀b,¬g.has b->K (TokR ie.size (.lst ie.size (l++rows) (some b)) (l++rows)) ((Store.empty.sT b (some ((l++rows).length*ie.size))).un g):=λb hb=>
  hK _ _ (.inr ⟨λe=>hne (List.append_eq_nil_iff.1 e).2,b,rfl,rfl⟩) λi h1 h2=>hb (by rw[tokHas.1 h1]at h2;exact h2)
 have e2:∀b n,¬g.has b->g.sT b (some n)=(Store.empty.sT b (some n)).un g:=λb n hb=>by
  have:=(kz hb).2
  obtain⟨o,t⟩:=g
  unfold Store.un Store.sT
  congr 1
  ·funext i;cases h:o i<;>simp[h,Store.empty]
  ·funext i
   by_cases e:i=b
   ·subst e;simp_all
   ·simp only[ym e,cond_false];cases h:t i<;>simp[h,Store.empty]
 refine⟨.inl ?_⟩
 unfold Pw
 refine za ie hie ?_
 rcases ht with⟨rfl,rfl,rfl⟩|⟨hl,t,rfl,rfl⟩
 ·refine za rows hx ⟨hroom,λv st' ho=>?_⟩
  rcases ho with⟨_,e,_⟩|⟨_,b,hf,rfl,rfl⟩
  ·exact absurd e hne
  ·rw[unE]at hf⊢
   have hb:=fresh_iff.1 hf
   rw[show rows=[]++rows from rfl,e2 _ _ hb]
   exact hL _ _ (key b hb)
 ·have hgt:¬g.has t:=hd t (tokHas.2 rfl)
  simp only[Fbo,h0,Fdx,cond_true]
  refine za rows hx ⟨Ki hd (H3 _ _ _),hroom,λv st' ho=>?_⟩
  have e1:(Store.un (Store.empty.sT t (some (l.length*ie.size))) g).sT t none=g:=by
   have:=(kz hgt).2
   obtain⟨o,tk⟩:=g
   unfold Store.un Store.sT
   congr 1
   ·funext i;cases h:o i<;>simp[h,Store.empty]
   ·funext i
    by_cases e:i=t
    ·subst e;simp_all
    ·simp only[ym e,cond_false];cases h:tk i<;>simp[h,Store.empty]
  rw[e1]at ho
  rcases ho with⟨_,e,_⟩|⟨_,b,hf,rfl,rfl⟩
  ·exact absurd (List.append_eq_nil_iff.1 e).1 hl
  ·have hb:¬g.has b:=fresh_iff.1 hf
   rw[e2 _ _ hb]
   exact hL _ _ (key b hb)
end Go.V
