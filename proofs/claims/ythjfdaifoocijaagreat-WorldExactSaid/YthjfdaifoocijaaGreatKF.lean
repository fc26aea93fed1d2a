/- Ground of laws of thronglaw25: contracts and plain lemmas; no condition beyond the row's own. -/
import Derived.Test.YthjfdaifoocijaaGreatKE
set_option linter.unusedSimpArgs false
set_option linter.unusedVariables false
set_option linter.defProp false
namespace Go.V
section
variable {a b m L c:Int}
def zud(hb:0<=b)(h:a*a<b*b):a<b:=by refine Int.not_le.1 λhle=>?_;have:=Fa9 hle hle hb θ;omega
def Nw(ha:0<=a)(h:a<=b):a*a<=b*b:=Fa9 h h ha θ
def zuc{p q:Int}(hp:0<=p)(h:p<q):p*p<q*q:=
 Int.lt_of_le_of_lt (Fda (Int.le_of_lt h) hp) (Int.mul_lt_mul_of_pos_right h θ)
def uy(a b c d:Int):a*b*(c*d)=a*c*(b*d):=by ac_rfl
def ylg{x y s:Int}(hx:0<=x)(hy:0<=y)(hm:0<=m)(hmL:m<L)(hs:x*x+y*y<(L+1)*(L+1))(ha:a=x*m/L)(hb:b=y*m/L):a*a+b*b<(m+1)*(m+1):=by
 have hL:0<L:=θ;have a1:a*L<=x*m:=by rw[ha];exact Int.ediv_mul_le _ θ
 have b1:b*L<=y*m:=by rw[hb];exact Int.ediv_mul_le _ θ
 have a0:0<=a:=by rw[ha];exact Fb2 (Fav hx hm) θ
 have b0:0<=b:=by rw[hb];exact Fb2 (Fav hy hm) θ
 have a2:=Nw (Fav a0 (by omega:(0:Int)<=L)) a1;have b2:=Nw (Fav b0 (by omega:(0:Int)<=L)) b1;have e1:(a*a+b*b)*(L*L)=a*L*(a*L)+b*L*(b*L):=δ;have e2:x*m*(x*m)+y*m*(y*m)=(x*x+y*y)*(m*m):=δ;have h1:(a*a+b*b)*(L*L)<=(x*x+y*y)*(m*m):=δ;refine Int.not_le.1 λhle=>?_;have h2:(m+1)*(m+1)*(L*L)<=(x*x+y*y)*(m*m):=Int.le_trans (Int.mul_le_mul_of_nonneg_right hle (Fav θ θ)) h1;have h3:(x*x+y*y)*(m*m)<=((L+1)*(L+1))*(m*m):=Int.mul_le_mul_of_nonneg_right θ (Fav hm hm);have e3:(m+1)*(m+1)*(L*L)=((m+1)*L)*((m+1)*L):=uy ..;have e4:((L+1)*(L+1))*(m*m)=((L+1)*m)*((L+1)*m):=uy ..;have h4:((L+1)*m)*((L+1)*m)<((m+1)*L)*((m+1)*L):=by have k1:(L+1)*m<(m+1)*L:=δ;have k0:0<=(L+1)*m:=Fav θ hm;exact zuc k0 k1
 omega
def v8(v:Vc):Prop:=(-1125899906842624<=v.1/\v.1<=1125899906842624)/\(-1125899906842624<=v.2/\v.2<=1125899906842624)
def F6{v:Vc}(h:v8 v):sqr v=v.1*v.1+v.2*v.2/\qu v=v/\0<=sqr v/\sqr v<(jx (sqr v)+1)*(jx (sqr v)+1):=by
 obtain⟨h1,h2⟩:=h;have e:sqr v=v.1*v.1+v.2*v.2:=by grind[sqr,lh]
 have p1:0<=v.1*v.1:=by rcases Int.le_total 0 v.1 with h|h;exact Fav h h;rw[<-Int.neg_mul_neg];exact Fav θ θ
 have p2:0<=v.2*v.2:=by rcases Int.le_total 0 v.2 with h|h;exact Fav h h;rw[<-Int.neg_mul_neg];exact Fav θ θ
 have b:∀x:Int,-1125899906842624<=x/\x<=1125899906842624->x*x<=1125899906842624*1125899906842624:=λx hx=>by
  rcases Int.le_total 0 x with h|h
  ·exact Nw h hx.2
  ·rw[<-Int.neg_mul_neg];exact Nw θ θ
 have b1:=b _ h1;have b2:=b _ h2;have h0:0<=sqr v:=θ;refine⟨e,?_,h0,?_⟩
 ·grind[qu,Ff]
 ·obtain⟨r0,r1,r2,r3⟩:=G8 h0;grind
theorem Ke(x:Int):x*x=(x.natAbs:Int)*x.natAbs:=δ
def ya8{v:Vc}(hs:v8 v)(hm:0<=m)(h:v.1*v.1+v.2*v.2<(m+1)*(m+1)):jx (sqr v)<=m:=by obtain⟨e,_,h0,_⟩:=F6 hs;obtain⟨r0,_,r2,_⟩:=G8 h0;have:jx (sqr v)<m+1:=zud θ θ;omega
def ij(hm:0<=m)(hL:0<L):((Ft c m L).natAbs:Int)=(c.natAbs:Int)*m/L:=by
 have q:∀z:Int,0<=z->0<=z*m/L:=λz hz=>Fb2 (Fav hz hm) θ;unfold Ft;split
 ·have:=q (-c) θ;rw[show(c.natAbs:Int)=-c by omega];omega
 ·have:=q c θ;rw[show(c.natAbs:Int)=c by omega];omega
def Vt(hm:0<=m)(hmL:m<L):(Ft c m L).natAbs<=c.natAbs:=by
 have h1:=ij (c:=c) hm (show 0<L by omega);have h2:(c.natAbs:Int)*m/L<=c.natAbs:=by have:(c.natAbs:Int)*m<=c.natAbs*L:=Fda θ θ;exact Int.le_trans (Int.ediv_le_ediv θ this) (by rw[Int.mul_ediv_cancel _ θ];exact Fcu _)
 omega
def V4{v:Vc}(hs:v8 v)(hm:0<=m):v8 (xy v m)/\(xy v m).1*(xy v m).1+(xy v m).2*(xy v m).2<(m+1)*(m+1):=by
 obtain⟨e,en,h0,h1⟩:=F6 hs;have hmx:max m 0=m:=θ;have n1:nrm v.1=v.1:=congrArg Prod.fst en;have n2:nrm v.2=v.2:=congrArg Prod.snd en;have r0:=(G8 h0).1;unfold xy;rw[hmx];split
 ·rename_i hle;rw[en];refine⟨hs,?_⟩;have:=Nw (show 0<=jx (sqr v)+1 by omega) (show jx (sqr v)+1<=m+1 by omega);omega
 ·rename_i hgt;rw[n1,n2];have hmL:m<jx (sqr v):=θ;have c1:=Vt (c:=v.1) hm hmL;have c2:=Vt (c:=v.2) hm hmL;refine⟨?_,?_⟩
  ·unfold v8 at hs⊢;dsimp only;omega
  ·dsimp only;rw[Ke (Ft v.1 _ _),Ke (Ft v.2 _ _)];refine ylg (s:=0) (x:=v.1.natAbs) (y:=v.2.natAbs) θ θ hm hmL ?_ (ij hm θ) (ij hm θ);rw[<-Ke,<-Ke];omega
def zbi(x:Int)(k:Nat):(x.tdiv (2^k:Nat)).natAbs<=x.natAbs:=by rw[Int.natAbs_tdiv];exact Nat.div_le_self _ _
def xq(p:Vc):Prop:=(0<=p.1/\p.1<=8388608)/\(0<=p.2/\p.2<=8388608)
theorem Ld(ha:-2251799813685248<=a/\a<=2251799813685248)(hb:-2251799813685248<=b/\b<=2251799813685248):qp a b=a+b:=by unfold qp vp;rw[Ff θ,Ff θ,if_neg θ,if_neg θ]
theorem Wq{p q:Vc}(hp:xq p)(hq:xq q):qy q p=(q.1-p.1,q.2-p.2)/\v8 (qy q p):=by obtain⟨p1,p2⟩:=hp;obtain⟨q1,q2⟩:=hq;have e:=mh (a:=q) (b:=p) θ θ θ θ;refine⟨e,?_⟩;rw[e];unfold v8;dsimp only;omega
def R9{p q:Vc}(hp:xq p)(hq:xq q){r:Int}(hr:0<r):-16777216<=(ky p r q).1/\(ky p r q).1<=16777216/\-16777216<=(ky p r q).2/\(ky p r q).2<=16777216:=by
 obtain⟨e,hs⟩:=Wq hq hp;unfold ky;split
 ·rename_i hn;generalize hm:r-jx (sqr (qy p q))=m;have hv:∀w:Vc,v8 w->(w.1.natAbs<=16777216/\w.2.natAbs<=16777216)->-16777216<=(xy w m).1/\(xy w m).1<=16777216/\-16777216<=(xy w m).2/\(xy w m).2<=16777216:=by
   intro w hw hb;obtain⟨_,en,_,_⟩:=F6 hw;have n1:nrm w.1=w.1:=congrArg Prod.fst en;have n2:nrm w.2=w.2:=congrArg Prod.snd en;unfold xy;split
   ·rw[en];omega
   ·rename_i hgt;rw[n1,n2];have c1:=Vt (c:=w.1) (m:=max m 0) (L:=jx (sqr w)) θ θ;have c2:=Vt (c:=w.2) (m:=max m 0) (L:=jx (sqr w)) θ θ;dsimp only;omega
  obtain⟨p1,p2⟩:=hp;obtain⟨q1,q2⟩:=hq;split
  ·exact hv _ (by unfold v8;decide) ψ
  ·refine hv _ hs ?_;rw[e];dsimp only;omega
 ·decide
def yhi{w:Wld}{u:Unt}(hu:xq u.pos)(h:∀x∈w.U,x.inn=0->xq x.pos)(hl:w.U.length<=4096):v8 (Be w u):=by
 have key:∀(l:List Unt) (v:Vc) (B:Nat),(∀x∈l,x.inn=0->xq x.pos)->B+l.length<=4096->(v.1.natAbs<=B*16777216/\v.2.natAbs<=B*16777216)->
   v8 (l.foldl (λv x=>if x.inn=0/\x.id≠u.id then xn v (ky u.pos (z6 u.kind+z6 x.kind+16384) x.pos)else v) v):=by
  intro l;induction l with
  |nil=>
   intro v B _ hB hv;unfold v8;simp only[List.length_nil]at hB;simp only[List.foldl_nil];omega
  |cons x l ih=>
   intro v B hx hB hv;simp only[Fbz]at hB;rw[Fc7];refine ih _ (B+1) (λy hy=>hx y (Fba _ hy)) θ ?_;split
   ·rename_i hc;have r1:=Oj u.kind;have r2:=Oj x.kind;have:=R9 hu (hx x Fbo hc.1) (r:=z6 u.kind+z6 x.kind+16384) θ;generalize ky u.pos (z6 u.kind+z6 x.kind+16384) x.pos=z at*;have e:xn v z=(v.1+z.1,v.2+z.2):=by
     unfold xn;rw[Ld θ θ,Ld θ θ]
    rw[e];dsimp only;omega
   ·exact⟨Fcx hv.1 (Fa1 _ (Fdb B)),Fcx hv.2 (Fa1 _ (Fdb B))⟩
 unfold Be;refine key w.U (0,0) 0 h θ ⟨?_,?_⟩
 ·show(0:Int).natAbs<=_;simp
 ·show(0:Int).natAbs<=_;simp
end
section
variable {w:Wld} {i:Nat} {u:Unt}
theorem R5(w:Wld){a b:Unt}(h:a.id=b.id):yk (yk w a) b=yk w b:=by
 unfold yk;simp only[List.map_map]
 congr 1
 refine Fby λx _=>?_;simp only[Function.comp];by_cases e:x.id=a.id
 ·rw[if_pos e,if_pos h,if_pos (e.trans h)]
 ·rw[if_neg e]
def ydv(hr:yr w.U)(hi:i<w.U.length):yk w w.U[i]=w:=by
 rw[Bl hr hi rfl]
 congr 1
 exact List.set_getElem_self hi
def ybp(hr:yr w.U)(hi:i<w.U.length)(hid:u.id=w.U[i].id):yr (yk w u).U:=by
 refine sa (R6 w u) (λj hj=>?_) hr;by_cases e:j=i
 ·subst e;obtain⟨_,h⟩:=R7 hr hi hid;rw[h];exact hid
 ·rw[sy hr hi hid hj e]
def Lr(u u':Unt):Prop:=u'.id=u.id/\u'.kind=u.kind/\(u'.pos=u.pos\/∃(v:Vc) (m:Int) (k:Nat),v8 v/\0<=m/\m<=xa u.kind/\u'.pos=xn u.pos (vd (qu (xy v m)) k))
def L9(k:Int):8192<=xa k/\xa k<=24576:=by unfold xa;split<;>(try split)<;>(try split)<;>omega
def nl(hr:yr w.U)(hi:i<w.U.length){v:Vc}{m:Int}(hs:v8 v)(hm:0<=m)(hm2:m<=xa w.U[i].kind):∃u',xk w w.U[i] (xy v m)=yk w u'/\Lr w.U[i] u':=by
 unfold xk;cases h:qk w w.U[i] (qu (xy v m)) 5 0 with
 |none=>exact⟨w.U[i],(ydv hr hi).symm,rfl,rfl,.inl rfl⟩
 |some r=>
  obtain⟨k,p⟩:=r;obtain⟨_,_,h3⟩:=P9 5 0 h;exact⟨_,rfl,rfl,rfl,.inr ⟨v,m,k,hs,hm,hm2,h3⟩⟩
def Gj(hm:ya w)(hu:u∈w.U)(h0:u.inn=0):xq u.pos:=by have:=Vf hm.1.1.2.1.1 (hm.2.1 u hu h0).1;unfold xq;omega
def i6{g:Gnd}(hg:zw g){t:Nat}(ht:t<g.T.length):xq (yf g t):=by obtain⟨⟨h1,h2⟩,⟨h3,h4⟩,h5,_⟩:=hg;have a:=Fcf (t:Int) (show g.W≠0 by omega);have b:=Fcs (t:Int) (show 0<g.W by omega);have c:0<=(t:Int)/g.W:=Fb2 θ θ;have d:(t:Int)/g.W<g.H:=Fd0 θ (by rw[Int.mul_comm];omega);unfold xq yf tx ty;dsimp only;omega
def oi(hm:ya w)(hi:i<w.U.length)(h0:w.U[i].inn=0)(hu:mvG 0 u=mvG 0 w.U[i])(ht:u.next.toNat<w.G.T.length):∃u',Ab w u=yk w u'/\Lr w.U[i] u':=by
 obtain⟨f1,f2,f3,f4,f5⟩:=Ij hu;have hmp:=Gj hm (Faa hi) h0;have same:∀u':Unt,u'.id=u.id->u'.kind=u.kind->u'.pos=u.pos->∃u2,yk w u'=yk w u2/\Lr w.U[i] u2:=λu' a b c=>⟨u',rfl,a.trans f1,b.trans f3,.inl (c.trans f4)⟩
 unfold Ab;split
 ·obtain⟨h2,e⟩:=R7 (u:={u with stuck:=0}) hm.1.2.1 hi f1;have hr2:=ybp (u:={u with stuck:=0}) hm.1.2.1 hi f1;have hs:=(Wq (p:=u.pos) (q:=yf w.G u.next.toNat) (by rw[f4];exact hmp) (i6 hm.1.1.2.1.1 ht)).2;have hsp:=L9 u.kind;obtain⟨u2,e2,k1,k2,k3⟩:=nl hr2 h2 (v:=qy (yf w.G u.next.toNat) u.pos) (m:=xa u.kind) hs θ (by rw[e];exact Fcu _);rw[e]at e2 k1 k2 k3;refine⟨u2,?_,k1.trans f1,k2.trans f3,?_⟩
  ·unfold Bi;rw[e2];exact R5 w k1.symm
  ·rw[<-f4,<-f3];exact k3
 ·split
  ·exact same _ rfl rfl rfl
  ·exact same _ rfl rfl rfl
def ye8(hg:zw w.G){own:Nat}(ho:own<w.G.T.length)(h:¬Ae w u own<0):(Ae w u own).toNat<w.G.T.length:=by have:=dz hg (u:=u) ho;have:=hg.2.2.1;unfold Aa at*;omega
def yio(hm:ya w)(hi:i<w.U.length)(h0:w.U[i].inn=0)(hg:w.U[i].goal≠-1):∃u',Cb w w.U[i]=yk w u'/\Lr w.U[i] u':=by
 have hu:=P0 hm hi;have hgn:=hm.1.1.2.1.1;unfold Cb;split
 ·exact⟨_,rfl,rfl,rfl,.inl rfl⟩
 ·split
  ·split
   ·exact⟨_,rfl,rfl,rfl,.inl rfl⟩
   ·rename_i hn;exact oi hm hi h0 (u:={w.U[i]with next:=Ae w w.U[i] (vm w.G w.U[i].pos)}) rfl (ye8 hgn (Sa hm hi h0) hn)
  ·rename_i hl;refine oi hm hi h0 rfl ?_;have hne:w.U[i].next≠-1:=λe=>hl (by unfold Aw;simp[e]);have:=hu.2.1.2.1;have:=hgn.2.2.1;unfold Aa at*;omega
def zgc(hm:ya w)(hi:i<w.U.length)(h0:w.U[i].inn=0):∃u',vf w w.U[i]=yk w u'/\Lr w.U[i] u':=by
 unfold vf;split
 ·have hsp:=L9 w.U[i].kind;have e:(xa w.U[i].kind).tdiv 4=xa w.U[i].kind/4:=Faz θ;unfold Fp;rw[e];exact nl hm.1.2.1 hi (yhi (Gj hm (Faa hi) h0) (λx hx h=>Gj hm hx h) hm.1.1.2.1.2.2) θ θ
 ·exact yio hm hi h0 ‹_›
end
structure MayF(w:Wld):Prop where
 hg:zw w.G
 hB:w.B.length<=256
 hU:w.U.length<=4096
 hT:w.G.T.length<=16384
 hb:∀b∈w.B,yi b/\onP w.G b
 hk:∀u∈w.U,kr u.kind
 hr:yr w.U
 hn1:1<=w.next
 hn2:w.next<=1099511627776
def xh{w:Wld}(h:ya w):MayF w:=by obtain⟨⟨hh,hok⟩,_⟩:=h;have hbl:=hh.2.1.2.1;have ha:=qg hh.2.1.1;exact⟨hh.2.1.1,hbl.1,hh.2.1.2.2,θ,λb hb=>⟨(hbl.2.2.1 b hb).1,(hbl.2.2.1 b hb).2.1⟩,λu hu=>(hok.2 u hu).1.1.2.2,hok.1,hh.1.2.2.1,hh.1.2.2.2⟩
def MayF.fits{w:Wld}(h:MayF w):w.fits:=⟨by unfold Gnd.fits;have:=h.hT;omega,by have:=h.hB;omega,by have:=h.hU;omega⟩
def Im(k:Int):0<=qm k/\qm k<=3:=by unfold qm;split<;>decide
def Wz(a b:Vc):(xn a b).ok:=by have h1:=V5 (nrm a.1+nrm b.1);have h2:=V5 (nrm a.2+nrm b.2);exact⟨⟨by show _<=vp _;omega,by show vp _<=_;omega⟩,⟨by show _<=vp _;omega,by show vp _<=_;omega⟩⟩
def playW(w:Wld):Prop:=ya w/\∀u∈w.U,u.pos.ok
def playW.sizes{w:Wld}(h:playW w):w.G.T.length<=1000000/\w.B.length<=1000000/\w.U.length<=1000000:=by have f:=xh h.1;have:=f.hB;have:=f.hU;have:=f.hT;omega
def zfl{u u':Unt}(h:Lr u u')(hu:u.pos.ok):u'.pos.ok:=by
 rcases h.2.2 with e|⟨v,m,k,_,_,_,e⟩
 ·rw[e];exact hu
 ·rw[e];exact Wz _ _
def yds{w:Wld}{u:Unt}(hw:∀x∈w.U,x.pos.ok)(hu:u.pos.ok):∀x∈(yk w u).U,x.pos.ok:=by
 intro x hx;unfold yk at hx;obtain⟨y,hy,rfl⟩:=Fag.1 hx;split
 ·exact hu
 ·exact hw y hy
section
variable {w:Wld} {i:Nat}
open Classical in
noncomputable def goN(w:Wld):Nat->Wld
 |0=>w
 |i+1=>if h:i<(goN w i).U.length then(if(goN w i).U[i].inn=0 then vf (goN w i) (goN w i).U[i]else goN w i)else goN w i
noncomputable def ki(w:Wld):Wld:=goN w w.U.length
def yd3(h:playW w)(hi:i<w.U.length)(h0:w.U[i].inn=0):playW (vf w w.U[i])/\(vf w w.U[i]).U.length=w.U.length/\(vf w w.U[i]).G=w.G/\(vf w w.U[i]).B=w.B:=by
 obtain⟨u',h1,h2⟩:=zgc h.1 hi h0;refine⟨⟨yfv h.1 hi h0,?_⟩,?_,?_,?_⟩
 ·rw[h1];exact yds h.2 (zfl h2 (h.2 _ (Faa hi)))
 ·rw[h1,R6]
 ·rw[h1];rfl
 ·rw[h1];rfl
def Pa(h:playW w):∀i,playW (goN w i)/\(goN w i).U.length=w.U.length/\(goN w i).G=w.G/\(goN w i).B=w.B
 |0=>⟨h,rfl,rfl,rfl⟩
 |i+1=>by
  obtain⟨h1,h2,h3,h4⟩:=Pa h i;unfold goN;by_cases hi:i<(goN w i).U.length
  ·rw[dif_pos hi];by_cases h0:(goN w i).U[i].inn=0
   ·rw[if_pos h0];obtain⟨q1,q2,q3,q4⟩:=yd3 h1 hi h0;exact⟨q1,q2.trans h2,q3.trans h3,q4.trans h4⟩
   ·rw[if_neg h0];exact⟨h1,h2,h3,h4⟩
  ·rw[dif_neg hi];exact⟨h1,h2,h3,h4⟩
def zbq(hi:i<(goN w i).U.length)(h0:(goN w i).U[i].inn=0):goN w (i+1)=vf (goN w i) (goN w i).U[i]:=by rw[goN,dif_pos hi,if_pos h0]
def zbp(hi:i<(goN w i).U.length)(h0:(goN w i).U[i].inn≠0):goN w (i+1)=goN w i:=by rw[goN,dif_pos hi,if_neg h0]
def yn9(h:playW w):playW (ki w)/\(ki w).U.length=w.U.length:=⟨(Pa h _).1,(Pa h _).2.1⟩
end
section
variable {x:Unt} {w:Wld}
def Pb{U:List Unt}{v:Unt}(h:v∈U++[x]):v∈U\/v=x:=δ
def ybq{U:List Unt}(hr:yr U)(hx:∀u∈U,u.id<x.id):yr (U++[x]):=by
 intro j hj h0;have hj2:j<U.length+1:=δ;by_cases e:j<U.length
 ·rw[Fb0 θ,Fb0 e];exact hr j e h0
 grind
theorem yfx{c:Cmd}(hm:ya w)(hc:js c)(hp:c.P<=w.players)(hk:c.K=1)(h:spE w c=0):ya (spW w c):=by
 have hn:¬Fq w:=λhf=>by simp_all[spE]
 have hcl:qh w 0 c.N (c.X,c.Y):=Classical.byContradiction λhh=>by simp_all[spE]
 unfold Fq at hn;have hn1:w.U.length<4096:=θ;have hn2:w.next<1099511627776:=θ;obtain⟨⟨hh,hr,hu⟩,hcc,hd⟩:=hm;have hg:=hh.2.1.1;have hN:=((Cmd.ok1 hk).1 hc.1).1;have hl:(w.U++[spU w c]).length=w.U.length+1:=by rw[Fae];rfl
 have hnx:=hh.1.2.2.1;have upu:∀v,ko w v->ko (spW w c) v:=λv hv=>⟨⟨⟨hv.1.1.1,by show v.id<w.next+1;have:=hv.1.1.2;omega⟩,hv.1.2⟩,hv.2⟩
 have hin:∀id,id≠0->z8 (w.U++[spU w c]) id=z8 w.U id:=λid hid=>by grind[z8,spU]
 refine⟨⟨⟨⟨hh.1.1,hh.1.2.1,by show 1<=w.next+1/\w.next+1<=_;omega⟩,⟨hg,hh.2.1.2.1,by show(w.U++[spU w c]).length<=_;omega⟩,λb hb=>⟨(hh.2.2 b hb).1,by show b.id<w.next+1;have:=(hh.2.2 b hb).2;omega⟩⟩,?_,λv hv=>?_⟩,λv hv h0=>?_,λv hv h0=>?_⟩
 ·exact ybq hr λu hu2=>(hu u hu2).1.1.1.2
 ·rcases Pb hv with hv|rfl
  ·exact⟨upu v (hu v hv).1,(hu v hv).2⟩
  ·refine⟨⟨⟨⟨hnx,by show w.next<w.next+1;omega⟩,⟨hc.2.1.1,hp⟩,hN⟩,⟨.inl rfl,.inl rfl,ψe⟩,⟨ψr,⟨λe=>absurd (show(0:Int)=1 from e) ψ,λe=>absurd rfl e⟩⟩,λ_=>⟨rfl,rfl⟩⟩,λb hb=>?_⟩;have:=(hh.2.2 b hb).2;show b.id≠w.next;omega
 ·rcases Pb hv with hv|rfl
  ·have hv0:=hcc v hv h0;refine⟨hv0.1,λx hx hx0 hxi=>?_⟩;rcases Pb hx with hx|rfl
   ·exact hv0.2 x hx hx0 hxi
   ·have:=hcl.2 v hv h0 (by have:=(hu v hv).1.1.1.1;omega);rw[zel hg hcl.1 hv0.1]at this;exact this
  ·refine⟨hcl.1,λx hx hx0 hxi=>?_⟩;rcases Pb hx with hx|rfl
   ·exact hcl.2 x hx hx0 (by have:=(hu x hx).1.1.1.1;omega)
   ·exact absurd rfl hxi
 ·rcases Pb hv with hv|rfl
  ·obtain⟨x,hx,g1,g2,g3,g4⟩:=hd v hv h0;exact⟨x,Fdi _ hx,g1,g2,by show((z8 (w.U++[spU w c]) _).length:Int)<=_;rw[hin _ h0];exact g3,g4⟩
  ·exact absurd rfl h0
def zbv{g:Gnd}{l l':List Bld}{c:Int}{p:Vc}{r:Int}(hf:Cc g l c p r)(h:∀t,t<g.T.length->yp g l' c t=false->yp g l c t=false\/¬ja g t p r):Cc g l' c p r:=
 ⟨hf.1,λt ht ho hh=>by
  rcases h t ht ho with e|e
  ·exact hf.2 t ht e hh
  ·exact e hh⟩
def zaj(hm:ya w){B:List Bld}{next:Int}(hnx:w.next<=next/\next<=1099511627776)(hb:Hr w.G B)(hb2:∀b∈B,b.owner<=w.players/\b.id<next)(hb3:∀b∈B,∀u∈w.U,b.id≠u.id)
  (hf:∀u∈w.U,u.inn=0->Cc w.G B (yl u.kind) u.pos (z6 u.kind)):ya {w with B:=B,next:=next}:=by
 obtain⟨⟨hh,hr,hu⟩,hcc,hd⟩:=hm;have hn1:=hh.1.2.2.1;refine⟨⟨⟨⟨hh.1.1,hh.1.2.1,δ⟩,⟨hh.2.1.1,hb,hh.2.1.2.2⟩,hb2⟩,hr,λv hv=>⟨?_,λb hb=>hb3 b hb v hv⟩⟩,λv hv h0=>⟨hf v hv h0,(hcc v hv h0).2⟩,hd⟩;have hv0:=(hu v hv).1;exact⟨⟨⟨hv0.1.1.1,by show v.id<next;have:=hv0.1.1.2;omega⟩,hv0.1.2⟩,hv0.2⟩
theorem yf5{c:Cmd}(hm:ya w)(hc:js c)(hp:c.P<=w.players)(hk:c.K=4)(h:bdE w c=0):ya (bdW w c):=by
 unfold bdE at h;have c1:0<=c.T/\c.T<w.G.W*w.G.H:=Classical.byContradiction λhh=>ψf;rw[if_neg (not_not_intro c1)]at h;have c2:¬1099511627776<=w.next:=λhh=>ψf;rw[if_neg c2]at h;have c3:ql w.G w.B (bdB w c)=0:=Classical.byContradiction λhh=>δ;rw[if_pos c3]at h;have c4:¬Gi w (bdB w c):=λhh=>ψf;unfold ql at c3;have d1:onP w.G (bdB w c):=Classical.byContradiction λhh=>δ;rw[if_neg (not_not_intro d1)]at c3;have d2:¬∃x∈w.B,j9 x (bdB w c):=λhh=>δ;rw[if_neg d2]at c3;have d3:C9 w.G (bdB w c):=Classical.byContradiction λhh=>δ;rw[if_neg (not_not_intro d3)]at c3;have d4:¬256<=w.B.length:=λhh=>δ;have hsz:=((Cmd.ok4 hk).1 hc.1).2;have hh:=hm.1.1;have hnx:=hh.1.2.2.1;have hbl:=hh.2.1.2.1;have ha:=qg hh.2.1.1;have mem:∀b∈w.B++[bdB w c],b∈w.B\/b=bdB w c:=λb hb=>δ;have hl:(w.B++[bdB w c]).length=w.B.length+1:=by rw[Fae];rfl
 refine zaj hm (B:=w.B++[bdB w c]) (next:=w.next+1) ⟨θ,θ⟩ ⟨θ,?_,λb hb=>?_,?_⟩ (λb hb=>?_) (λb hb u hu=>?_) λu hu h0=>?_
 ·intro j hj h0;have hj2:j<w.B.length+1:=by rw[<-hl];exact hj
  by_cases e:j<w.B.length
  ·rw[Fb0 θ,Fb0 e];exact hbl.2.1 j e h0
  ·have ej:j=w.B.length:=θ;subst ej;rw[Fb0 θ,Fec (Fal _)];simp only[Nat.sub_self,Fcy];exact(hh.2.2 _ (Faa θ)).2
 ·rcases mem b hb with hb|rfl
  ·exact hbl.2.2.1 b hb
  ·exact⟨⟨⟨hnx,by show w.next<=_;omega⟩,⟨hc.2.1.1,hc.2.1.2⟩,hsz⟩,d1,d3⟩
 ·intro j hj i hij;have hj2:j<w.B.length+1:=by rw[<-hl];exact hj
  by_cases e:j<w.B.length
  ·rw[Fb0 e,Fb0 θ];exact hbl.2.2.2 j e i hij
  ·have ej:j=w.B.length:=θ;subst ej;rw[Fec (Fal _),Fb0 θ];simp only[Nat.sub_self,Fcy];grind[List.getElem_mem,j9]
 ·rcases mem b hb with hb|rfl
  ·have:=hh.2.2 b hb;exact⟨this.1,θ⟩
  ·exact⟨hp,by show w.next<w.next+1;omega⟩
 ·rcases mem b hb with hb|rfl
  ·exact(hm.1.2.2 u hu).2 b hb
  ·have:=(hm.1.2.2 u hu).1.1.1.2;show w.next≠u.id;omega
 ·refine zbv (hm.2.1 u hu h0).1 λt ht ho=>?_;by_cases hb:ku w.G (bdB w c) t
  ·exact .inr λhit=>c4 ⟨t,⟨θ,hb⟩,u,hu,h0,hit⟩
  grind[yp,xj]
def yf3{c:Cmd}(hm:ya w):ya (drW w c):=by
 unfold drW;cases hf:Bf w.B c.N with
 |none=>exact hm
 |some i=>
  have hh:=hm.1.1;have hbl:=hh.2.1.2.1;have hil:i<w.B.length:=by grind[Bf,List.findIdx?_eq_some_iff_getElem]
  have hlen:(w.B.eraseIdx i).length=w.B.length-1:=List.length_eraseIdx_of_lt hil;have sub:∀b∈w.B.eraseIdx i,b∈w.B:=λb hb=>List.mem_of_mem_eraseIdx hb;have get:∀j,(hj:j<(w.B.eraseIdx i).length)->(w.B.eraseIdx i)[j]=if h:j<i then w.B[j]'θ else w.B[j+1]'θ:=λj hj=>List.getElem_eraseIdx ..
  have up:∀a b,(ha:a<b)->(hb:b<w.B.length)->(w.B[a]'θ).id<w.B[b].id:=λa b hab=>by
   induction b with
   |zero=>omega
   |succ b ih=>
    intro hb;have h1:=hbl.2.1 (b+1) hb θ;grind
  have hnx:=hh.1.2.2;refine zaj hm (B:=w.B.eraseIdx i) (next:=w.next) ⟨θ,θ⟩ ⟨by have:=hbl.1;omega,?_,λb hb=>hbl.2.2.1 b (sub b hb),?_⟩ (λb hb=>hh.2.2 b (sub b hb)) (λb hb u hu=>(hm.1.2.2 u hu).2 b (sub b hb)) λu hu h0=>?_
  ·intro j hj h0;rw[get _ θ,get _ hj];split
   ·split
    ·exact up _ _ θ _
    ·exact up _ _ θ _
   ·rw[dif_neg θ];exact up _ _ θ _
  ·intro j hj k hkj;rw[get _ hj,get _ θ];split
   ·rw[dif_pos θ];exact hbl.2.2.2 _ _ _ θ
   ·split
    ·exact hbl.2.2.2 _ _ _ θ
    ·exact hbl.2.2.2 _ _ _ θ
  ·refine zbv (hm.2.1 u hu h0).1 λt ht ho=>.inl ?_;grind[yp,xj]
end
section
variable {w:Wld} {j:Nat}
def zef(hr:yr w.U){P id:Int}(h:xm w P id=0)(hj:j<w.U.length)(hid:w.U[j].id=id):w.U[j].owner=P/\w.U[j].inn=0:=by obtain⟨i,hi,hf,e,_,e2,e3⟩:=Ce h;have:=Lc hr hj hid;grind
theorem N8{l:List Int}{g:Unt->Unt}{U:List Unt}(hj:j<U.length):(yx l g U)[j]'(by rw[wd];exact hj)=if U[j].id∈l then g U[j]else U[j]:=Mb hj
theorem yfw{c:Cmd}(hm:ya w)(h:stE w c=0):ya (stW w c):=by
 have hz:=Gu (show jk (xm w c.P) c.U=0 from h);have hr:=hm.1.2.1;refine ew hm (U:=yx c.U j7 w.U) (wd _ _ _) (λj hj=>?_) (λj hj h0=>?_) λj hj=>?_
 ·rw[N8 hj];split<;>rfl
 ·rw[N8 hj];split
  ·rename_i e;exact absurd (zef hr (hz _ e) hj rfl).2 h0
  ·rfl
 ·rw[N8 hj];have hu:=(hm.1.2.2 _ (Faa hj)).1;split
  ·exact⟨hu.1,⟨.inl rfl,.inl rfl,ψe⟩,⟨ψr,⟨λe=>absurd (show(0:Int)=1 from e) ψ,λe=>absurd rfl e⟩⟩,λ_=>⟨rfl,rfl⟩⟩
  ·exact hu
def yfj{c:Cmd}(hg:zw w.G)(ht:0<=c.T/\c.T<w.G.W*w.G.H)(k:Nat)(kd:Int):0<=wu w c k kd/\wu w c k kd<w.G.W*w.G.H:=by
 have ha:=qg hg;by_cases h:k<(qi w kd c.T c.U.length).length
 ·rw[ei h];have:=(Rl (Faa h)).1;omega
 ·rw[ek h];exact ht
def uw{c:Cmd}(hm:ya w)(ht:0<=c.T/\c.T<w.G.W*w.G.H)(hz:∀a∈c.U,xm w c.P a=0):∀k,k<=c.U.length->∀j,(hj:j<w.U.length)->(w.U[j].inn≠0->(mvL w c k)[j]'(by rw[Af];exact hj)=w.U[j])/\ko w ((mvL w c k)[j]'(by rw[Af];exact hj))
 |0,_,j,hj=>⟨λ_=>rfl,(hm.1.2.2 _ (Faa hj)).1⟩
 |k+1,hk,j,hj=>by
  have ih:=uw hm ht hz k θ j hj;have hlt:k<c.U.length:=θ;have hr:=hm.1.2.1;obtain⟨i,hi,hf,hid,_,how,hin⟩:=Ce (hz c.U[k] (Faa hlt));have hgo:=yfj hm.1.1.2.1.1 ht k w.U[i].kind;have key:∀L:List Unt,(hL:j<L.length)->L=mvL w c (k+1)->(w.U[j].inn≠0->L[j]=w.U[j])/\ko w L[j]:=λL hL e=>by
   rw[eh hlt hf hi]at e;subst e;rw[Fc9];split
   ·rename_i e3;subst e3;have hu:=(hm.1.2.2 _ (Faa hi)).1;refine⟨λh0=>absurd hin h0,hu.1,⟨.inr hgo,.inl rfl,ψe⟩,⟨by show(0:Int)<=1/\(1:Int)<=4;decide,⟨λ_=>?_,λ_=>rfl⟩⟩,λe=>?_⟩
    ·show wu w c k w.U[i].kind≠-1;omega
    trivial
   ·exact ih
  grind
theorem yfz{c:Cmd}(hm:ya w)(h:mvE w c=0):ya (mvW w c):=by
 have ht:0<=c.T/\c.T<w.G.W*w.G.H:=Classical.byContradiction λhh=>by rw[eo hh]at h;cases h
 rw[el ht]at h;have hz:=Gu h;have key:=uw hm ht hz c.U.length (Fal _);exact ew hm (U:=mvL w c c.U.length) (Af _ _ _) (λj hj=>Ox w c _ j hj) (λj hj=>(key j hj).1) λj hj=>(key j hj).2
def yhf{U:List Unt}(hr:yr U):(U.map (·.id)).Nodup:=by rw[List.Nodup,Fcn];intro a b ha hb hab;rw[Fas]at ha hb;rw[Fbp,Fbp];have:=Gb hr hab hb;omega
def ylr{U:List Unt}(hr:yr U)(l:List Int):(U.filter λu=>decide (u.id∈l)).length<=l.length:=by have h1:((U.filter λu=>decide (u.id∈l)).map (·.id)).Nodup:=(yhf hr).sublist ((List.filter_sublist).map _);have:=Fbs (l₂:=l) h1 λid hid=>δ;rw[Fas]at this;exact this
def za5(l:List Int)(n:Int)(M:Int):∀U:List Unt,(z8 (yx l (ldU n) U) M).length<=(z8 U M).length+(if M=n then(U.filter λu=>decide (u.id∈l)).length else 0)
 |[]=>by simp[z8,yx]
 |a::U=>by
  have ih:=za5 l n M U;unfold z8 yx at ih⊢;simp only[Fas]at ih⊢;rw[Fcc,Fdl,Fdl,Fdl];by_cases e:a.id∈l
  ·simp only[if_pos e,decide_eq_true e,if_true,Fbz];by_cases eM:M=n
   ·grind
   ·simp only[if_neg eM]at ih⊢;have:((ldU n a).inn==M)=false:=by show(n==M)=false;simpa using λe=>eM e.symm
    grind
  grind
def yf0{c:Cmd}(hm:ya w)(hN:1<=c.N)(h:ldE w c=0):ya (ldW w c):=by
 unfold ldE at h;have c1:vj w c.P c.N=0:=Classical.byContradiction λhh=>δ;rw[if_pos c1]at h;have c2:jk (ldA w c.P c.N) c.U=0:=Classical.byContradiction λhh=>δ;rw[if_pos c2]at h;have c3:¬j2 (uAt w c.N).kind<((z8 w.U c.N).length:Int)+(c.U.length:Int):=λhh=>ψf;obtain⟨hask,hroom⟩:=Pk c1;obtain⟨ix,hix,hfx,hidx,hux,hox,hinx⟩:=Ce hask;rw[hux]at hroom c3;have hz:=Gu c2;obtain⟨⟨hh,hr,hu⟩,hcc,hd⟩:=hm
 -- who is loaded is on the field,of the same player,and carries nobody
 have ld:∀j,(hj:j<w.U.length)->w.U[j].id∈c.U->w.U[j].owner=c.P/\w.U[j].inn=0/\j2 w.U[j].kind=0:=λj hj hid=>by obtain⟨a1,a2⟩:=fj (hz _ hid);obtain⟨b1,b2⟩:=zef hr a1 hj rfl;refine⟨b1,b2,?_⟩;have e:uAt w w.U[j].id=w.U[j]:=(Nm (Lc hr hj rfl)).2.2;rw[e]at a2;unfold Ag at a2;have:¬0<j2 w.U[j].kind:=λhh=>δ;have:=K7 w.U[j].kind;omega
 have hxl:w.U[ix].id∉c.U:=λe=>hroom (ld ix hix e).2.2;have hl:(yx c.U (ldU c.N) w.U).length=w.U.length:=wd _ _ _;have back:∀v∈yx c.U (ldU c.N) w.U,∃j,∃hj:j<w.U.length,(w.U[j].id∈c.U/\v=ldU c.N w.U[j])\/(w.U[j].id∉c.U/\v=w.U[j]):=λv hv=>by obtain⟨j,hj,rfl⟩:=Fai hv;rw[hl]at hj;refine⟨j,hj,?_⟩;rw[N8 hj];grind
 have stay:∀j,(hj:j<w.U.length)->w.U[j].id∉c.U->w.U[j]∈yx c.U (ldU c.N) w.U:=λj hj e=>by
  have:(yx c.U (ldU c.N) w.U)[j]'(by rw[hl];exact hj)=w.U[j]:=by rw[N8 hj,if_neg e]
  grind
 have cnt:=λM=>za5 c.U c.N M w.U;have cin:=ylr hr c.U;have cN:((z8 (yx c.U (ldU c.N) w.U) c.N).length:Int)<=j2 w.U[ix].kind:=δ;refine⟨⟨⟨hh.1,⟨hh.2.1.1,hh.2.1.2.1,by show(yx c.U (ldU c.N) w.U).length<=_;rw[hl];exact hh.2.1.2.2⟩,hh.2.2⟩,b7 (g:=ldU c.N) (λ_=>rfl) hr,λv hv=>?_⟩,λv hv h0=>?_,λv hv h0=>?_⟩
 ·obtain⟨j,hj,⟨e,rfl⟩|⟨e,rfl⟩⟩:=back v hv
  ·have hu0:=hu _ (Faa hj);exact⟨⟨hu0.1.1,⟨.inl rfl,.inl rfl,ψe⟩,⟨ψr,⟨λe=>absurd (show(0:Int)=1 from e) ψ,λe=>absurd rfl e⟩⟩,λ_=>⟨rfl,rfl⟩⟩,hu0.2⟩
  ·exact hu _ (Faa hj)
 ·obtain⟨j,hj,⟨e,rfl⟩|⟨e,rfl⟩⟩:=back v hv
  ·have h0:c.N=0:=h0;omega
  ·refine iv (w:=w) rfl rfl (λx hx hx0 hxi=>?_) (hcc _ (Faa hj) h0);obtain⟨k,hk,⟨e2,rfl⟩|⟨e2,rfl⟩⟩:=back x hx
   ·have hx0:c.N=0:=hx0;omega
   grind
 ·obtain⟨j,hj,⟨e,rfl⟩|⟨e,rfl⟩⟩:=back v hv
  ·obtain⟨l1,l2,l3⟩:=ld j hj e;refine⟨w.U[ix],stay ix hix hxl,hidx,⟨hinx,?_⟩,cN,l3,rfl,rfl,rfl⟩;show w.U[ix].owner=w.U[j].owner;rw[hox,l1]
  ·obtain⟨x,hx,g1,g2,g3,g4⟩:=hd _ (Faa hj) h0;obtain⟨k,hk,rfl⟩:=Fai hx;have hne:0<(z8 w.U w.U[j].inn).length:=List.length_pos_iff.2 (List.ne_nil_of_mem (yhb (Faa hj)));have hkl:w.U[k].id∉c.U:=λe2=>by grind
   refine⟨w.U[k],stay k hk hkl,g1,g2,?_,g4⟩;show((z8 (yx c.U (ldU c.N) w.U) w.U[j].inn).length:Int)<=_;by_cases eN:w.U[j].inn=c.N
   ·grind[H9]
   grind
def yf4{c:Cmd}(h:doE aE w c=0):ya (aW w c):=by
 obtain⟨hm,hc,hp,he⟩:=zcy h;rcases So hc with k|k|k|k|k|k|k
 ·grind[a1,yfx]
 ·grind[a2,yfz]
 ·grind[a3,yfw]
 ·grind[a4,yf5]
 ·rw[(a5 k).2];exact yf3 hm
 ·rw[(a6 k).1]at he;rw[(a6 k).2];exact yf0 hm ((Cmd.ok6 k).1 hc.1).2.1 he
 ·rw[(a7 k).2];unfold ulW;cases hu:unl c.T (z8 w.U c.N) w with
  |none=>exact hm
  |some x=>exact zad _ _ _ hm hu
end
section
variable {w:Wld}
def td(h:playW w)(c:Cmd):playW (doW aE aW w c):=by
 by_cases he:doE aE w c=0
 ·rw[g9 he];exact⟨yf4 he,yos h.2 he⟩
 ·rw[Pf he];exact h
noncomputable def j5(w:Wld):List Cmd->Wld
 |[]=>w
 |c::l=>j5 (doW aE aW w c) l
noncomputable def ve(w:Wld):List Cmd->List Int
 |[]=>[]
 |c::l=>doE aE w c::ve (doW aE aW w c) l
def zdd:∀(l:List Cmd) (w:Wld) (m:List Cmd),j5 w (l++m)=j5 (j5 w l) m/\ve w (l++m)=ve w l++ve (j5 w l) m
 |[],_,_=>⟨rfl,rfl⟩
 |c::l,w,m=>by obtain⟨h1,h2⟩:=zdd l (doW aE aW w c) m;exact⟨h1,by show _::ve _ (l++m)=_;rw[h2];rfl⟩
theorem V1:∀(l:List Cmd) (w:Wld),(ve w l).length=l.length
 |[],_=>rfl
 |c::l,w=>by show(ve _ l).length+1=_;rw[V1 l];rfl
def zdc{l:List Cmd}{i:Nat}(hi:i<l.length):j5 w (l.take (i+1))=doW aE aW (j5 w (l.take i)) l[i]/\ve w (l.take (i+1))=ve w (l.take i)++[doE aE (j5 w (l.take i)) l[i]]:=by rw[Fab hi];obtain⟨h1,h2⟩:=zdd (l.take i) w [l[i]];exact⟨h1,h2⟩
def Ol:∀(l:List Cmd) {w:Wld},playW w->playW (j5 w l)
 |[],_,h=>h
 |c::l,w,h=>Ol l (td h c)
def yor(c:Cmd)(hr:yr w.U):(aW w c).tick=w.tick:=by
 unfold aW;repeat' split
 ·rfl
 ·rfl
 ·rfl
 ·rfl
 ·exact(yko w c).1
 ·rfl
 ·exact(m9 hr).1
def ykr(c:Cmd)(hr:yr w.U):(doW aE aW w c).tick=w.tick:=by
 unfold doW;split
 ·exact yor c hr
 ·rfl
theorem Vz:∀(l:List Cmd) {w:Wld},playW w->(j5 w l).tick=w.tick
 |[],_,_=>rfl
 |c::l,w,h=>(Vz l (td h c)).trans (ykr c h.1.1.2.1)
def nr(w:Wld)(u:Unt)(v:Vc):(xk w u v).tick=w.tick:=by unfold xk;split<;>rfl
def ol(w:Wld)(u:Unt):(Ab w u).tick=w.tick:=by
 unfold Ab;split
 ·exact nr _ _ _
 ·split<;>rfl
def zgd(w:Wld)(u:Unt):(vf w u).tick=w.tick:=by
 unfold vf;split
 ·exact nr _ _ _
 ·unfold Cb;split
  ·rfl
  ·split
   ·split
    ·rfl
    ·exact ol _ _
   ·exact ol _ _
theorem La(w:Wld):∀i,(goN w i).tick=w.tick
 |0=>rfl
 |i+1=>by
  unfold goN;split
  ·split
   ·exact(zgd _ _).trans (La w i)
   ·exact La w i
  ·exact La w i
noncomputable def Hz(w:Wld):Wld:={ki w with tick:=(ki w).tick+1}
def zg9(w:Wld):(Hz w).tick=w.tick+1:=by show(goN w _).tick+1=_;rw[La]
def tc(h:playW w)(ht:w.tick<1099511627776):playW (Hz w):=by obtain⟨⟨⟨⟨hh,hu⟩,hc,hd⟩,hn⟩,_⟩:=yn9 h;have e:(ki w).tick=w.tick:=La w _;have h1:=hh.1.1;exact⟨⟨⟨⟨⟨⟨by show 0<=(ki w).tick+1;omega,by show(ki w).tick+1<=_;omega⟩,hh.1.2⟩,hh.2⟩,hu⟩,hc,hd⟩,hn⟩
noncomputable def Da(w:Wld)(l:List Cmd):Wld:=Hz (j5 w l)
def yd6(h:playW w)(ht:w.tick<1099511627776)(l:List Cmd):playW (Da w l):=
 tc (Ol l h) (by rw[Vz l h];exact ht)
end
structure Ask25 where
 S:Scr
 room:Int
 n:Int
def Lm(a:Ask25):List AV:=ce a.S++[int a.room,int a.n]
end Go.V
