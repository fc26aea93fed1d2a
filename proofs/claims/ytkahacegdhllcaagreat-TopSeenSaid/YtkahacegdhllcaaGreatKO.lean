/- Ground of laws of throngtop: contracts and plain lemmas; no condition beyond the row's own. -/
import Derived.Lib.AppendZerosOnto
import Derived.Test.YtkahacegdhllcaaGreatKE
set_option linter.unusedSimpArgs false
set_option linter.unusedVariables false
set_option linter.defProp false
namespace Go.V
section
variable {a b m L c:Int}
def Py(ha:0<=a)(h:a<=b):a*a<=b*b:=Fbo h h ha θ
def yar{p q:Int}(hp:0<=p)(h:p<q):p*p<q*q:=
 Int.lt_of_le_of_lt (Fdd (Int.le_of_lt h) hp) (Int.mul_lt_mul_of_pos_right h θ)
def zf4(a b c d:Int):a*b*(c*d)=a*c*(b*d):=by ac_rfl
def yry{x y s:Int}(hx:0<=x)(hy:0<=y)(hm:0<=m)(hmL:m<L)(hs:x*x+y*y<(L+1)*(L+1))(ha:a=x*m/L)(hb:b=y*m/L):a*a+b*b<(m+1)*(m+1):=by
 have hL:0<L:=θ;have a1:a*L<=x*m:=by rw[ha];exact Int.ediv_mul_le _ θ
 have b1:b*L<=y*m:=by rw[hb];exact Int.ediv_mul_le _ θ
 have a0:0<=a:=by rw[ha];exact Fcz (Fa8 hx hm) θ
 have b0:0<=b:=by rw[hb];exact Fcz (Fa8 hy hm) θ
 have a2:=Py (Fa8 a0 (by omega:(0:Int)<=L)) a1;have b2:=Py (Fa8 b0 (by omega:(0:Int)<=L)) b1;have e1:(a*a+b*b)*(L*L)=a*L*(a*L)+b*L*(b*L):=δ;have e2:x*m*(x*m)+y*m*(y*m)=(x*x+y*y)*(m*m):=δ;have h1:(a*a+b*b)*(L*L)<=(x*x+y*y)*(m*m):=δ;refine Int.not_le.1 λhle=>?_;have h2:(m+1)*(m+1)*(L*L)<=(x*x+y*y)*(m*m):=Feb (Fea hle (Fa8 θ θ)) h1;have h3:(x*x+y*y)*(m*m)<=((L+1)*(L+1))*(m*m):=Fea θ (Fa8 hm hm);have e3:(m+1)*(m+1)*(L*L)=((m+1)*L)*((m+1)*L):=zf4 ..;have e4:((L+1)*(L+1))*(m*m)=((L+1)*m)*((L+1)*m):=zf4 ..;have h4:((L+1)*m)*((L+1)*m)<((m+1)*L)*((m+1)*L):=by have k1:(L+1)*m<(m+1)*L:=δ;have k0:0<=(L+1)*m:=Fa8 θ hm;exact yar k0 k1
 omega
def Bs(v:Vc):Prop:=(-1125899906842624<=v.1/\v.1<=1125899906842624)/\(-1125899906842624<=v.2/\v.2<=1125899906842624)
def Lj{v:Vc}(h:Bs v):sqr v=v.1*v.1+v.2*v.2/\wn v=v/\0<=sqr v/\sqr v<(vz (sqr v)+1)*(vz (sqr v)+1):=by
 have⟨h1,h2⟩:=h;have e:sqr v=v.1*v.1+v.2*v.2:=by grind[sqr,zad]
 have p1:0<=v.1*v.1:=by rcases Int.le_total 0 v.1 with h|h;exact Fa8 h h;rw[<-Int.neg_mul_neg];exact Fa8 θ θ
 have p2:0<=v.2*v.2:=by rcases Int.le_total 0 v.2 with h|h;exact Fa8 h h;rw[<-Int.neg_mul_neg];exact Fa8 θ θ
 have b:∀x:Int,-1125899906842624<=x/\x<=1125899906842624->x*x<=1125899906842624*1125899906842624:=λx hx=>by
  rcases Int.le_total 0 x with h|h
  ·exact Py h hx.2
  ·rw[<-Int.neg_mul_neg];exact Py θ θ
 have b1:=b _ h1;have b2:=b _ h2;have h0:0<=sqr v:=θ;refine⟨e,?_,h0,?_⟩
 ·grind[wn,Hl]
 ·have⟨r0,r1,r2,r3⟩:=Ny h0;grind
theorem Ph(x:Int):x*x=(x.natAbs:Int)*x.natAbs:=δ
def t8(hm:0<=m)(hL:0<L):((Ix c m L).natAbs:Int)=(c.natAbs:Int)*m/L:=by
 have q:∀z:Int,0<=z->0<=z*m/L:=λz hz=>Fcz (Fa8 hz hm) θ;unfold Ix;split
 ·have:=q (-c) θ;rw[show(c.natAbs:Int)=-c by omega];omega
 ·have:=q c θ;rw[show(c.natAbs:Int)=c by omega];omega
def fi(hm:0<=m)(hmL:m<L):(Ix c m L).natAbs<=c.natAbs:=by
 have h1:=t8 (c:=c) hm (show 0<L by omega);have h2:(c.natAbs:Int)*m/L<=c.natAbs:=by have:(c.natAbs:Int)*m<=c.natAbs*L:=Fdd θ θ;exact Feb (Int.ediv_le_ediv θ this) (by rw[Int.mul_ediv_cancel _ θ];exact Fcr _)
 omega
def zjr{v:Vc}(hs:Bs v)(hm:0<=m):Bs (ku v m)/\(ku v m).1*(ku v m).1+(ku v m).2*(ku v m).2<(m+1)*(m+1):=by
 have⟨e,en,h0,h1⟩:=Lj hs;have hmx:max m 0=m:=θ;have n1:nrm v.1=v.1:=congrArg Prod.fst en;have n2:nrm v.2=v.2:=congrArg Prod.snd en;have r0:=(Ny h0).1;unfold ku;rw[hmx];split
 ·rename_i hle;rw[en];refine⟨hs,?_⟩;have:=Py (show 0<=vz (sqr v)+1 by omega) (show vz (sqr v)+1<=m+1 by omega);omega
 ·rename_i hgt;rw[n1,n2];have hmL:m<vz (sqr v):=θ;have c1:=fi (c:=v.1) hm hmL;have c2:=fi (c:=v.2) hm hmL;refine⟨?_,?_⟩
  ·unfold Bs at hs⊢;dsimp only;omega
  ·dsimp only;rw[Ph (Ix v.1 _ _),Ph (Ix v.2 _ _)];refine yry (s:=0) (x:=v.1.natAbs) (y:=v.2.natAbs) θ θ hm hmL ?_ (t8 hm θ) (t8 hm θ);rw[<-Ph,<-Ph];omega
def zhj(x:Int)(k:Nat):(x.tdiv (2^k:Nat)).natAbs<=x.natAbs:=by rw[Int.natAbs_tdiv];exact Nat.div_le_self _ _
def jm(p:Vc):Prop:=(0<=p.1/\p.1<=8388608)/\(0<=p.2/\p.2<=8388608)
theorem Sr(ha:-2251799813685248<=a/\a<=2251799813685248)(hb:-2251799813685248<=b/\b<=2251799813685248):qs a b=a+b:=by unfold qs Bj;rw[Hl θ,Hl θ,if_neg θ,if_neg θ]
theorem ia{p q:Vc}(hp:jm p)(hq:jm q):jd q p=(q.1-p.1,q.2-p.2)/\Bs (jd q p):=by have⟨p1,p2⟩:=hp;have⟨q1,q2⟩:=hq;have e:=zbb (a:=q) (b:=p) θ θ θ θ;refine⟨e,?_⟩;rw[e];unfold Bs;dsimp only;omega
def ni{p q:Vc}(hp:jm p)(hq:jm q){r:Int}(hr:0<r):-16777216<=(Bv p r q).1/\(Bv p r q).1<=16777216/\-16777216<=(Bv p r q).2/\(Bv p r q).2<=16777216:=by
 have⟨e,hs⟩:=ia hq hp;unfold Bv;split
 ·rename_i hn;generalize hm:r-vz (sqr (jd p q))=m;have hv:∀w:Vc,Bs w->(w.1.natAbs<=16777216/\w.2.natAbs<=16777216)->-16777216<=(ku w m).1/\(ku w m).1<=16777216/\-16777216<=(ku w m).2/\(ku w m).2<=16777216:=by
   intro w hw hb;have⟨_,en,_,_⟩:=Lj hw;have n1:nrm w.1=w.1:=congrArg Prod.fst en;have n2:nrm w.2=w.2:=congrArg Prod.snd en;unfold ku;split
   ·rw[en];omega
   ·rename_i hgt;rw[n1,n2];have c1:=fi (c:=w.1) (m:=max m 0) (L:=vz (sqr w)) θ θ;have c2:=fi (c:=w.2) (m:=max m 0) (L:=vz (sqr w)) θ θ;dsimp only;omega
  have⟨p1,p2⟩:=hp;have⟨q1,q2⟩:=hq;split
  ·exact hv _ (by unfold Bs;decide) ψ
  ·refine hv _ hs ?_;rw[e];dsimp only;omega
 ·decide
def ync{w:Wld}{u:Unt}(hu:jm u.pos)(h:∀x∈w.U,x.inn=0->jm x.pos)(hl:w.U.length<=4096):Bs (Kp w u):=by
 have key:∀(l:List Unt) (v:Vc) (B:Nat),(∀x∈l,x.inn=0->jm x.pos)->B+l.length<=4096->(v.1.natAbs<=B*16777216/\v.2.natAbs<=B*16777216)->
   Bs (l.foldl (λv x=>if x.inn=0/\x.id≠u.id then kx v (Bv u.pos (z6 u.kind+z6 x.kind+16384) x.pos)else v) v):=by
  intro l;induction l with
  |nil=>
   intro v B _ hB hv;unfold Bs;simp only[Fdb]at hB;simp only[List.foldl_nil];omega
  |cons x l ih=>
   intro v B hx hB hv;simp only[Fbf]at hB;rw[Fcy];refine ih _ (B+1) (λy hy=>hx y (Fau _ hy)) θ ?_;split
   ·rename_i hc;have r1:=Rk u.kind;have r2:=Rk x.kind;have:=ni hu (hx x Fa1 hc.1) (r:=z6 u.kind+z6 x.kind+16384) θ;generalize Bv u.pos (z6 u.kind+z6 x.kind+16384) x.pos=z at*;have e:kx v z=(v.1+z.1,v.2+z.2):=by
     unfold kx;rw[Sr θ θ,Sr θ θ]
    rw[e];dsimp only;omega
   ·exact⟨Fbx hv.1 (Fa2 _ (Fd6 B)),Fbx hv.2 (Fa2 _ (Fd6 B))⟩
 unfold Kp;refine key w.U (0,0) 0 h θ ⟨?_,?_⟩
 ·show(0:Int).natAbs<=_;simp
 ·show(0:Int).natAbs<=_;simp
end
section
variable {w:Wld} {i:Nat} {u:Unt}
def zek(w:Wld){a b:Unt}(h:a.id=b.id):yz (yz w a) b=yz w b:=by
 unfold yz;simp only[Fdc]
 congr 1
 refine Fbw λx _=>?_;simp only[Function.comp];by_cases e:x.id=a.id
 ·rw[if_pos e,if_pos h,if_pos (e.trans h)]
 ·rw[if_neg e]
def yh3(hr:yl w.U)(hi:i<w.U.length):yz w w.U[i]=w:=by
 rw[Lu hr hi rfl]
 congr 1
 exact Fdn hi
def ygw(hr:yl w.U)(hi:i<w.U.length)(hid:u.id=w.U[i].id):yl (yz w u).U:=by
 refine zd7 (W0 w u) (λj hj=>?_) hr;by_cases e:j=i
 ·subst e;have⟨_,h⟩:=W3 hr hi hid;rw[h];exact hid
 ·rw[zel hr hi hid hj e]
def M8(u u':Unt):Prop:=u'.id=u.id/\u'.kind=u.kind/\(u'.pos=u.pos\/∃(v:Vc) (m:Int) (k:Nat),Bs v/\0<=m/\m<=Aj u.kind/\u'.pos=kx u.pos (Dq (wn (ku v m)) k))
def Wb(k:Int):8192<=Aj k/\Aj k<=24576:=by unfold Aj;split<;>(try split)<;>(try split)<;>omega
def zbw(hr:yl w.U)(hi:i<w.U.length){v:Vc}{m:Int}(hs:Bs v)(hm:0<=m)(hm2:m<=Aj w.U[i].kind):∃u',At w w.U[i] (ku v m)=yz w u'/\M8 w.U[i] u':=by
 unfold At;cases h:Bo w w.U[i] (wn (ku v m)) 5 0 with
 |none=>exact⟨w.U[i],(yh3 hr hi).symm,rfl,rfl,.inl rfl⟩
 |some r=>
  have⟨k,p⟩:=r;have⟨_,_,h3⟩:=Vy 5 0 h;exact⟨_,rfl,rfl,rfl,.inr ⟨v,m,k,hs,hm,hm2,h3⟩⟩
def R3(hm:z8 w)(hu:u∈w.U)(h0:u.inn=0):jm u.pos:=by have:=Sl hm.1.1.2.1.1 (hm.2.1 u hu h0).1;unfold jm;omega
def zjw{g:Gnd}(hg:zv g){t:Nat}(ht:t<g.T.length):jm (qg g t):=by have⟨⟨h1,h2⟩,⟨h3,h4⟩,h5,_⟩:=hg;have a:=Fd3 (t:Int) (show g.W≠0 by omega);have b:=Fdl (t:Int) (show 0<g.W by omega);have c:0<=(t:Int)/g.W:=Fcz θ θ;have d:(t:Int)/g.W<g.H:=Fed θ (by rw[Fen];omega);unfold jm qg tx ty;dsimp only;omega
def zcl(hm:z8 w)(hi:i<w.U.length)(h0:w.U[i].inn=0)(hu:mvG 0 u=mvG 0 w.U[i])(ht:u.next.toNat<w.G.T.length):∃u',Fv w u=yz w u'/\M8 w.U[i] u':=by
 have⟨f1,f2,f3,f4,f5⟩:=Ma hu;have hmp:=R3 hm (Faa hi) h0;have same:∀u':Unt,u'.id=u.id->u'.kind=u.kind->u'.pos=u.pos->∃u2,yz w u'=yz w u2/\M8 w.U[i] u2:=λu' a b c=>⟨u',rfl,a.trans f1,b.trans f3,.inl (c.trans f4)⟩
 unfold Fv;split
 ·have⟨h2,e⟩:=W3 (u:={u with stuck:=0}) hm.1.2.1 hi f1;have hr2:=ygw (u:={u with stuck:=0}) hm.1.2.1 hi f1;have hs:=(ia (p:=u.pos) (q:=qg w.G u.next.toNat) (by rw[f4];exact hmp) (zjw hm.1.1.2.1.1 ht)).2;have hsp:=Wb u.kind;have⟨u2,e2,k1,k2,k3⟩:=zbw hr2 h2 (v:=jd (qg w.G u.next.toNat) u.pos) (m:=Aj u.kind) hs θ (by rw[e];exact Fcr _);rw[e]at e2 k1 k2 k3;refine⟨u2,?_,k1.trans f1,k2.trans f3,?_⟩
  ·unfold Ni;rw[e2];exact zek w k1.symm
  ·rw[<-f4,<-f3];exact k3
 ·split
  ·exact same _ rfl rfl rfl
  ·exact same _ rfl rfl rfl
def yjr(hg:zv w.G){own:Nat}(ho:own<w.G.T.length)(h:¬Fa w u own<0):(Fa w u own).toNat<w.G.T.length:=by have:=o6 hg (u:=u) ho;have:=hg.2.2.1;unfold De at*;omega
def yod(hm:z8 w)(hi:i<w.U.length)(h0:w.U[i].inn=0)(hg:w.U[i].goal≠-1):∃u',Gd w w.U[i]=yz w u'/\M8 w.U[i] u':=by
 have hu:=io hm hi;have hgn:=hm.1.1.2.1.1;unfold Gd;split
 ·exact⟨_,rfl,rfl,rfl,.inl rfl⟩
 ·split
  ·split
   ·exact⟨_,rfl,rfl,rfl,.inl rfl⟩
   ·rename_i hn;exact zcl hm hi h0 (u:={w.U[i]with next:=Fa w w.U[i] (kz w.G w.U[i].pos)}) rfl (yjr hgn (bf hm hi h0) hn)
  ·rename_i hl;refine zcl hm hi h0 rfl ?_;have hne:w.U[i].next≠-1:=λe=>hl (by unfold Md;simp[e]);have:=hu.2.1.2.1;have:=hgn.2.2.1;unfold De at*;omega
def zm1(hm:z8 w)(hi:i<w.U.length)(h0:w.U[i].inn=0):∃u',Ce w w.U[i]=yz w u'/\M8 w.U[i] u':=by
 unfold Ce;split
 ·have hsp:=Wb w.U[i].kind;have e:(Aj w.U[i].kind).tdiv 4=Aj w.U[i].kind/4:=Fbg θ;unfold Hs;rw[e];exact zbw hm.1.2.1 hi (ync (R3 hm (Faa hi) h0) (λx hx h=>R3 hm hx h) hm.1.1.2.1.2.2) θ θ
 ·exact yod hm hi h0 ‹_›
end
structure Scr24 where
 W:Wld
 I:List Int
 V:List Vc
def Scr24.good(s:Scr24):Prop:=(∀u∈s.W.U,u.pos.ok)/\(∀n∈s.I,yu n)/\∀v∈s.V,v.ok
def zmq(a b:Vc):(kx a b).ok:=by have h1:=fy (nrm a.1+nrm b.1);have h2:=fy (nrm a.2+nrm b.2);exact⟨⟨by show _<=Bj _;omega,by show Bj _<=_;omega⟩,⟨by show _<=Bj _;omega,by show Bj _<=_;omega⟩⟩
def playW(w:Wld):Prop:=z8 w/\∀u∈w.U,u.pos.ok
def playW.sizes{w:Wld}(h:playW w):w.G.T.length<=1000000/\w.B.length<=1000000/\w.U.length<=1000000:=by have f:=ww h.1;have:=f.hB;have:=f.hU;have:=f.hT;omega
def zl3{u u':Unt}(h:M8 u u')(hu:u.pos.ok):u'.pos.ok:=by
 rcases h.2.2 with e|⟨v,m,k,_,_,_,e⟩
 ·rw[e];exact hu
 ·rw[e];exact zmq _ _
def yhx{w:Wld}{u:Unt}(hw:∀x∈w.U,x.pos.ok)(hu:u.pos.ok):∀x∈(yz w u).U,x.pos.ok:=by
 intro x hx;unfold yz at hx;obtain⟨y,hy,rfl⟩:=Fag.1 hx;split
 ·exact hu
 ·exact hw y hy
section
variable {w:Wld} {i:Nat}
open Classical in
noncomputable def goN(w:Wld):Nat->Wld
 |0=>w
 |i+1=>if h:i<(goN w i).U.length then(if(goN w i).U[i].inn=0 then Ce (goN w i) (goN w i).U[i]else goN w i)else goN w i
noncomputable def vf(w:Wld):Wld:=goN w w.U.length
def yij(h:playW w)(hi:i<w.U.length)(h0:w.U[i].inn=0):playW (Ce w w.U[i])/\(Ce w w.U[i]).U.length=w.U.length/\(Ce w w.U[i]).G=w.G/\(Ce w w.U[i]).B=w.B:=by
 have⟨u',h1,h2⟩:=zm1 h.1 hi h0;refine⟨⟨ykr h.1 hi h0,?_⟩,?_,?_,?_⟩
 ·rw[h1];exact yhx h.2 (zl3 h2 (h.2 _ (Faa hi)))
 ·rw[h1,W0]
 ·rw[h1];rfl
 ·rw[h1];rfl
def Sh(h:playW w):∀i,playW (goN w i)/\(goN w i).U.length=w.U.length/\(goN w i).G=w.G/\(goN w i).B=w.B
 |0=>⟨h,rfl,rfl,rfl⟩
 |i+1=>by
  have⟨h1,h2,h3,h4⟩:=Sh h i;unfold goN;by_cases hi:i<(goN w i).U.length
  ·rw[dif_pos hi];by_cases h0:(goN w i).U[i].inn=0
   ·rw[if_pos h0];have⟨q1,q2,q3,q4⟩:=yij h1 hi h0;exact⟨q1,q2.trans h2,q3.trans h3,q4.trans h4⟩
   ·rw[if_neg h0];exact⟨h1,h2,h3,h4⟩
  ·rw[dif_neg hi];exact⟨h1,h2,h3,h4⟩
def yoi(hi:i<(goN w i).U.length)(h0:(goN w i).U[i].inn=0):goN w (i+1)=Ce (goN w i) (goN w i).U[i]:=by rw[goN,dif_pos hi,if_pos h0]
def yoh(hi:i<(goN w i).U.length)(h0:(goN w i).U[i].inn≠0):goN w (i+1)=goN w i:=by rw[goN,dif_pos hi,if_neg h0]
def yuk(h:playW w):playW (vf w)/\(vf w).U.length=w.U.length:=⟨(Sh h _).1,(Sh h _).2.1⟩
end
section
variable {x:Unt} {w:Wld}
def Sj{U:List Unt}{v:Unt}(h:v∈U++[x]):v∈U\/v=x:=δ
def ygx{U:List Unt}(hr:yl U)(hx:∀u∈U,u.id<x.id):yl (U++[x]):=by
 intro j hj h0;have hj2:j<U.length+1:=δ;by_cases e:j<U.length
 ·rw[Fbr θ,Fbr e];exact hr j e h0
 grind
theorem ykt{c:Cmd}(hm:z8 w)(hc:vq c)(hp:c.P<=w.players)(hk:c.K=1)(h:spE w c=0):z8 (spW w c):=by
 have hn:¬Ks w:=λhf=>by simp_all[spE]
 have hcl:xz w 0 c.N (c.X,c.Y):=Classical.byContradiction λhh=>by simp_all[spE]
 unfold Ks at hn;have hn1:w.U.length<4096:=θ;have hn2:w.next<1099511627776:=θ;have⟨⟨hh,hr,hu⟩,hcc,hd⟩:=hm;have hg:=hh.2.1.1;have hN:=((Cmd.ok1 hk).1 hc.1).1;have hl:(w.U++[spU w c]).length=w.U.length+1:=by rw[Fac];rfl
 have hnx:=hh.1.2.2.1;have upu:∀v,vi w v->vi (spW w c) v:=λv hv=>⟨⟨⟨hv.1.1.1,by show v.id<w.next+1;have:=hv.1.1.2;omega⟩,hv.1.2⟩,hv.2⟩
 have hin:∀id,id≠0->ya (w.U++[spU w c]) id=ya w.U id:=λid hid=>by grind[ya,spU]
 refine⟨⟨⟨⟨hh.1.1,hh.1.2.1,by show 1<=w.next+1/\w.next+1<=_;omega⟩,⟨hg,hh.2.1.2.1,by show(w.U++[spU w c]).length<=_;omega⟩,λb hb=>⟨(hh.2.2 b hb).1,by show b.id<w.next+1;have:=(hh.2.2 b hb).2;omega⟩⟩,?_,λv hv=>?_⟩,λv hv h0=>?_,λv hv h0=>?_⟩
 ·exact ygx hr λu hu2=>(hu u hu2).1.1.1.2
 ·rcases Sj hv with hv|rfl
  ·exact⟨upu v (hu v hv).1,(hu v hv).2⟩
  ·refine⟨⟨⟨⟨hnx,by show w.next<w.next+1;omega⟩,⟨hc.2.1.1,hp⟩,hN⟩,⟨.inl rfl,.inl rfl,ψi⟩,⟨ψv,⟨λe=>absurd (show(0:Int)=1 from e) ψ,λe=>absurd rfl e⟩⟩,λ_=>⟨rfl,rfl⟩⟩,λb hb=>?_⟩;have:=(hh.2.2 b hb).2;show b.id≠w.next;omega
 ·rcases Sj hv with hv|rfl
  ·have hv0:=hcc v hv h0;refine⟨hv0.1,λx hx hx0 hxi=>?_⟩;rcases Sj hx with hx|rfl
   ·exact hv0.2 x hx hx0 hxi
   ·have:=hcl.2 v hv h0 (by have:=(hu v hv).1.1.1.1;omega);rw[zky hg hcl.1 hv0.1]at this;exact this
  ·refine⟨hcl.1,λx hx hx0 hxi=>?_⟩;rcases Sj hx with hx|rfl
   ·exact hcl.2 x hx hx0 (by have:=(hu x hx).1.1.1.1;omega)
   ·exact absurd rfl hxi
 ·rcases Sj hv with hv|rfl
  ·have⟨x,hx,g1,g2,g3,g4⟩:=hd v hv h0;exact⟨x,List.mem_append_left _ hx,g1,g2,by show((ya (w.U++[spU w c]) _).length:Int)<=_;rw[hin _ h0];exact g3,g4⟩
  ·exact absurd rfl h0
def zh0{g:Gnd}{l l':List Bld}{c:Int}{p:Vc}{r:Int}(hf:Fh g l c p r)(h:∀t,t<g.T.length->qd g l' c t=false->qd g l c t=false\/¬wz g t p r):Fh g l' c p r:=
 ⟨hf.1,λt ht ho hh=>by
  rcases h t ht ho with e|e
  ·exact hf.2 t ht e hh
  ·exact e hh⟩
def zgf(hm:z8 w){B:List Bld}{next:Int}(hnx:w.next<=next/\next<=1099511627776)(hb:Mv w.G B)(hb2:∀b∈B,b.owner<=w.players/\b.id<next)(hb3:∀b∈B,∀u∈w.U,b.id≠u.id)
  (hf:∀u∈w.U,u.inn=0->Fh w.G B (qp u.kind) u.pos (z6 u.kind)):z8 {w with B:=B,next:=next}:=by
 have⟨⟨hh,hr,hu⟩,hcc,hd⟩:=hm;have hn1:=hh.1.2.2.1;refine⟨⟨⟨⟨hh.1.1,hh.1.2.1,δ⟩,⟨hh.2.1.1,hb,hh.2.1.2.2⟩,hb2⟩,hr,λv hv=>⟨?_,λb hb=>hb3 b hb v hv⟩⟩,λv hv h0=>⟨hf v hv h0,(hcc v hv h0).2⟩,hd⟩;have hv0:=(hu v hv).1;exact⟨⟨⟨hv0.1.1.1,by show v.id<next;have:=hv0.1.1.2;omega⟩,hv0.1.2⟩,hv0.2⟩
theorem yk1{c:Cmd}(hm:z8 w)(hc:vq c)(hp:c.P<=w.players)(hk:c.K=4)(h:bdE w c=0):z8 (bdW w c):=by
 unfold bdE at h;have c1:0<=c.T/\c.T<w.G.W*w.G.H:=Classical.byContradiction λhh=>ψj;rw[if_neg (not_not_intro c1)]at h;have c2:¬1099511627776<=w.next:=λhh=>ψj;rw[if_neg c2]at h;have c3:js w.G w.B (bdB w c)=0:=Classical.byContradiction λhh=>δ;rw[if_pos c3]at h;have c4:¬Mb w (bdB w c):=λhh=>ψj;unfold js at c3;have d1:onP w.G (bdB w c):=Classical.byContradiction λhh=>δ;rw[if_neg (not_not_intro d1)]at c3;have d2:¬∃x∈w.B,Bb x (bdB w c):=λhh=>δ;rw[if_neg d2]at c3;have d3:Hw w.G (bdB w c):=Classical.byContradiction λhh=>δ;rw[if_neg (not_not_intro d3)]at c3;have d4:¬256<=w.B.length:=λhh=>δ;have hsz:=((Cmd.ok4 hk).1 hc.1).2;have hh:=hm.1.1;have hnx:=hh.1.2.2.1;have hbl:=hh.2.1.2.1;have ha:=xj hh.2.1.1;have mem:∀b∈w.B++[bdB w c],b∈w.B\/b=bdB w c:=λb hb=>δ;have hl:(w.B++[bdB w c]).length=w.B.length+1:=by rw[Fac];rfl
 refine zgf hm (B:=w.B++[bdB w c]) (next:=w.next+1) ⟨θ,θ⟩ ⟨θ,?_,λb hb=>?_,?_⟩ (λb hb=>?_) (λb hb u hu=>?_) (λu hu h0=>?_)
 ·intro j hj h0;have hj2:j<w.B.length+1:=by rw[<-hl];exact hj
  by_cases e:j<w.B.length
  ·rw[Fbr θ,Fbr e];exact hbl.2.1 j e h0
  ·have ej:j=w.B.length:=θ;subst ej;rw[Fbr θ,Fcv (Fah _)];simp only[Fc3,Fb1];exact(hh.2.2 _ (Faa θ)).2
 ·rcases mem b hb with hb|rfl
  ·exact hbl.2.2.1 b hb
  ·exact⟨⟨⟨hnx,by show w.next<=_;omega⟩,⟨hc.2.1.1,hc.2.1.2⟩,hsz⟩,d1,d3⟩
 ·intro j hj i hij;have hj2:j<w.B.length+1:=by rw[<-hl];exact hj
  by_cases e:j<w.B.length
  ·rw[Fbr e,Fbr θ];exact hbl.2.2.2 j e i hij
  ·have ej:j=w.B.length:=θ;subst ej;rw[Fcv (Fah _),Fbr θ];simp only[Fc3,Fb1];grind[List.getElem_mem,Bb]
 ·rcases mem b hb with hb|rfl
  ·have:=hh.2.2 b hb;exact⟨this.1,θ⟩
  ·exact⟨hp,by show w.next<w.next+1;omega⟩
 ·rcases mem b hb with hb|rfl
  ·exact(hm.1.2.2 u hu).2 b hb
  ·have:=(hm.1.2.2 u hu).1.1.1.2;show w.next≠u.id;omega
 ·refine zh0 (hm.2.1 u hu h0).1 (λt ht ho=>?_);by_cases hb:Ff w.G (bdB w c) t
  ·exact .inr λhit=>c4 ⟨t,⟨θ,hb⟩,u,hu,h0,hit⟩
  grind[qd,xo]
def ykz{c:Cmd}(hm:z8 w):z8 (drW w c):=by
 unfold drW;cases hf:Hx w.B c.N with
 |none=>exact hm
 |some i=>
  have hh:=hm.1.1;have hbl:=hh.2.1.2.1;have hil:i<w.B.length:=by grind[Hx,List.findIdx?_eq_some_iff_getElem]
  have hlen:(w.B.eraseIdx i).length=w.B.length-1:=List.length_eraseIdx_of_lt hil;have sub:∀b∈w.B.eraseIdx i,b∈w.B:=λb hb=>Fc0 hb;have get:∀j,(hj:j<(w.B.eraseIdx i).length)->(w.B.eraseIdx i)[j]=if h:j<i then w.B[j]'θ else w.B[j+1]'θ:=λj hj=>List.getElem_eraseIdx ..
  have up:∀a b,(ha:a<b)->(hb:b<w.B.length)->(w.B[a]'θ).id<w.B[b].id:=λa b hab=>by
   induction b with
   |zero=>omega
   |succ b ih=>
    intro hb;have h1:=hbl.2.1 (b+1) hb θ;grind
  have hnx:=hh.1.2.2;refine zgf hm (B:=w.B.eraseIdx i) (next:=w.next) ⟨θ,θ⟩ ⟨by have:=hbl.1;omega,?_,λb hb=>hbl.2.2.1 b (sub b hb),?_⟩ (λb hb=>hh.2.2 b (sub b hb)) (λb hb u hu=>(hm.1.2.2 u hu).2 b (sub b hb)) (λu hu h0=>?_)
  ·intro j hj h0;rw[get _ θ,get _ hj];split
   ·split
    ·exact up _ _ θ _
    ·exact up _ _ θ _
   ·rw[dif_neg θ];exact up _ _ θ _
  ·intro j hj k hkj;rw[get _ hj,get _ θ];split
   ·rw[dif_pos θ];exact hbl.2.2.2 _ _ _ θ
   ·split
    ·exact hbl.2.2.2 _ _ _ θ
    ·exact hbl.2.2.2 _ _ _ θ
  ·refine zh0 (hm.2.1 u hu h0).1 (λt ht ho=>.inl ?_);grind[qd,xo]
end
section
variable {w:Wld} {j:Nat}
def zkp(hr:yl w.U){P id:Int}(h:kj w P id=0)(hj:j<w.U.length)(hid:w.U[j].id=id):w.U[j].owner=P/\w.U[j].inn=0:=by have⟨i,hi,hf,e,_,e2,e3⟩:=K0 h;have:=So hr hj hid;grind
theorem Rb{l:List Int}{g:Unt->Unt}{U:List Unt}(hj:j<U.length):(xa l g U)[j]'(by rw[Dz];exact hj)=if U[j].id∈l then g U[j]else U[j]:=Wf hj
theorem yks{c:Cmd}(hm:z8 w)(h:stE w c=0):z8 (stW w c):=by
 have hz:=M5 (show allE (kj w c.P) c.U=0 from h);have hr:=hm.1.2.1;refine pr hm (U:=xa c.U Hc w.U) (Dz _ _ _) (λj hj=>?_) (λj hj h0=>?_) (λj hj=>?_)
 ·rw[Rb hj];split<;>rfl
 ·rw[Rb hj];split
  ·rename_i e;exact absurd (zkp hr (hz _ e) hj rfl).2 h0
  ·rfl
 ·rw[Rb hj];have hu:=(hm.1.2.2 _ (Faa hj)).1;split
  ·exact⟨hu.1,⟨.inl rfl,.inl rfl,ψi⟩,⟨ψv,⟨λe=>absurd (show(0:Int)=1 from e) ψ,λe=>absurd rfl e⟩⟩,λ_=>⟨rfl,rfl⟩⟩
  ·exact hu
def yj7{c:Cmd}(hg:zv w.G)(ht:0<=c.T/\c.T<w.G.W*w.G.H)(k:Nat)(kd:Int):0<=Fb w c k kd/\Fb w c k kd<w.G.W*w.G.H:=by
 have ha:=xj hg;by_cases h:k<(qx w kd c.T c.U.length).length
 ·rw[zfz h];have:=(mg (Faa h)).1;omega
 ·rw[zf0 h];exact ht
def zfx{c:Cmd}(hm:z8 w)(ht:0<=c.T/\c.T<w.G.W*w.G.H)(hz:∀a∈c.U,kj w c.P a=0):∀k,k<=c.U.length->∀j,(hj:j<w.U.length)->(w.U[j].inn≠0->(mvL w c k)[j]'(by rw[Dm];exact hj)=w.U[j])/\vi w ((mvL w c k)[j]'(by rw[Dm];exact hj))
 |0,_,j,hj=>⟨λ_=>rfl,(hm.1.2.2 _ (Faa hj)).1⟩
 |k+1,hk,j,hj=>by
  have ih:=zfx hm ht hz k θ j hj;have hlt:k<c.U.length:=θ;have hr:=hm.1.2.1;have⟨i,hi,hf,hid,_,how,hin⟩:=K0 (hz c.U[k] (Faa hlt));have hgo:=yj7 hm.1.1.2.1.1 ht k w.U[i].kind;have key:∀L:List Unt,(hL:j<L.length)->L=mvL w c (k+1)->(w.U[j].inn≠0->L[j]=w.U[j])/\vi w L[j]:=λL hL e=>by
   rw[zfw hlt hf hi]at e;subst e;rw[Fct];split
   ·rename_i e3;subst e3;have hu:=(hm.1.2.2 _ (Faa hi)).1;refine⟨λh0=>absurd hin h0,hu.1,⟨.inr hgo,.inl rfl,ψi⟩,⟨by show(0:Int)<=1/\(1:Int)<=4;decide,⟨λ_=>?_,λ_=>rfl⟩⟩,λe=>?_⟩
    ·show Fb w c k w.U[i].kind≠-1;omega
    trivial
   ·exact ih
  grind
theorem ykv{c:Cmd}(hm:z8 w)(h:mvE w c=0):z8 (mvW w c):=by
 have ht:0<=c.T/\c.T<w.G.W*w.G.H:=Classical.byContradiction λhh=>by rw[zf2 hh]at h;cases h
 rw[zf1 ht]at h;have hz:=M5 h;have key:=zfx hm ht hz c.U.length (Fah _);exact pr hm (U:=mvL w c c.U.length) (Dm _ _ _) (λj hj=>b7 w c _ j hj) (λj hj=>(key j hj).1) (λj hj=>(key j hj).2)
def ym6{U:List Unt}(hr:yl U):(U.map (·.id)).Nodup:=by rw[List.Nodup,Fbz];intro a b ha hb hab;rw[Fal]at ha hb;rw[Fb0,Fb0];have:=Hd hr hab hb;omega
def yr5{U:List Unt}(hr:yl U)(l:List Int):(U.filter λu=>decide (u.id∈l)).length<=l.length:=by have h1:((U.filter λu=>decide (u.id∈l)).map (·.id)).Nodup:=(ym6 hr).sublist ((List.filter_sublist).map _);have:=Fb2 (l₂:=l) h1 (λid hid=>δ);rw[Fal]at this;exact this
def zha(l:List Int)(n:Int)(M:Int):∀U:List Unt,(ya (xa l (ldU n) U) M).length<=(ya U M).length+(if M=n then(U.filter λu=>decide (u.id∈l)).length else 0)
 |[]=>by simp[ya,xa]
 |a::U=>by
  have ih:=zha l n M U;unfold ya xa at ih⊢;simp only[Fal]at ih⊢;rw[Fci,Fdx,Fdx,Fdx];by_cases e:a.id∈l
  ·simp only[if_pos e,decide_eq_true e,if_true,Fbf];by_cases eM:M=n
   ·grind
   ·simp only[if_neg eM]at ih⊢;have:((ldU n a).inn==M)=false:=by show(n==M)=false;simpa using λe=>eM e.symm
    grind
  grind
def ykw{c:Cmd}(hm:z8 w)(hN:1<=c.N)(h:ldE w c=0):z8 (ldW w c):=by
 unfold ldE at h;have c1:Ao w c.P c.N=0:=Classical.byContradiction λhh=>δ;rw[if_pos c1]at h;have c2:allE (ldA w c.P c.N) c.U=0:=Classical.byContradiction λhh=>δ;rw[if_pos c2]at h;have c3:¬ko (uAt w c.N).kind<((ya w.U c.N).length:Int)+(c.U.length:Int):=λhh=>ψj;have⟨hask,hroom⟩:=uq c1;have⟨ix,hix,hfx,hidx,hux,hox,hinx⟩:=K0 hask;rw[hux]at hroom c3;have hz:=M5 c2;have⟨⟨hh,hr,hu⟩,hcc,hd⟩:=hm
 -- who is loaded is on the field,of the same player,and carries nobody
 have ld:∀j,(hj:j<w.U.length)->w.U[j].id∈c.U->w.U[j].owner=c.P/\w.U[j].inn=0/\ko w.U[j].kind=0:=λj hj hid=>by have⟨a1,a2⟩:=zgu (hz _ hid);have⟨b1,b2⟩:=zkp hr a1 hj rfl;refine⟨b1,b2,?_⟩;have e:uAt w w.U[j].id=w.U[j]:=(Vu (So hr hj rfl)).2.2;rw[e]at a2;unfold Og at a2;have:¬0<ko w.U[j].kind:=λhh=>δ;have:=R8 w.U[j].kind;omega
 have hxl:w.U[ix].id∉c.U:=λe=>hroom (ld ix hix e).2.2;have hl:(xa c.U (ldU c.N) w.U).length=w.U.length:=Dz _ _ _;have back:∀v∈xa c.U (ldU c.N) w.U,∃j,∃hj:j<w.U.length,(w.U[j].id∈c.U/\v=ldU c.N w.U[j])\/(w.U[j].id∉c.U/\v=w.U[j]):=λv hv=>by obtain⟨j,hj,rfl⟩:=Faf hv;rw[hl]at hj;refine⟨j,hj,?_⟩;rw[Rb hj];grind
 have stay:∀j,(hj:j<w.U.length)->w.U[j].id∉c.U->w.U[j]∈xa c.U (ldU c.N) w.U:=λj hj e=>by
  have:(xa c.U (ldU c.N) w.U)[j]'(by rw[hl];exact hj)=w.U[j]:=by rw[Rb hj,if_neg e]
  grind
 have cnt:=λM=>zha c.U c.N M w.U;have cin:=yr5 hr c.U;have cN:((ya (xa c.U (ldU c.N) w.U) c.N).length:Int)<=ko w.U[ix].kind:=δ;refine⟨⟨⟨hh.1,⟨hh.2.1.1,hh.2.1.2.1,by show(xa c.U (ldU c.N) w.U).length<=_;rw[hl];exact hh.2.1.2.2⟩,hh.2.2⟩,mh (g:=ldU c.N) (λ_=>rfl) hr,λv hv=>?_⟩,λv hv h0=>?_,λv hv h0=>?_⟩
 ·obtain⟨j,hj,⟨e,rfl⟩|⟨e,rfl⟩⟩:=back v hv
  ·have hu0:=hu _ (Faa hj);exact⟨⟨hu0.1.1,⟨.inl rfl,.inl rfl,ψi⟩,⟨ψv,⟨λe=>absurd (show(0:Int)=1 from e) ψ,λe=>absurd rfl e⟩⟩,λ_=>⟨rfl,rfl⟩⟩,hu0.2⟩
  ·exact hu _ (Faa hj)
 ·obtain⟨j,hj,⟨e,rfl⟩|⟨e,rfl⟩⟩:=back v hv
  ·have h0:c.N=0:=h0;omega
  ·refine uh (w:=w) rfl rfl (λx hx hx0 hxi=>?_) (hcc _ (Faa hj) h0);obtain⟨k,hk,⟨e2,rfl⟩|⟨e2,rfl⟩⟩:=back x hx
   ·have hx0:c.N=0:=hx0;omega
   grind
 ·obtain⟨j,hj,⟨e,rfl⟩|⟨e,rfl⟩⟩:=back v hv
  ·have⟨l1,l2,l3⟩:=ld j hj e;refine⟨w.U[ix],stay ix hix hxl,hidx,⟨hinx,?_⟩,cN,l3,rfl,rfl,rfl⟩;show w.U[ix].owner=w.U[j].owner;rw[hox,l1]
  ·have⟨x,hx,g1,g2,g3,g4⟩:=hd _ (Faa hj) h0;obtain⟨k,hk,rfl⟩:=Faf hx;have hne:0<(ya w.U w.U[j].inn).length:=Fcu.2 (List.ne_nil_of_mem (ymx (Faa hj)));have hkl:w.U[k].id∉c.U:=λe2=>by grind
   refine⟨w.U[k],stay k hk hkl,g1,g2,?_,g4⟩;show((ya (xa c.U (ldU c.N) w.U) w.U[j].inn).length:Int)<=_;by_cases eN:w.U[j].inn=c.N
   ·grind[Ls]
   grind
def yk0{c:Cmd}(h:doE aE w c=0):z8 (aW w c):=by
 have⟨hm,hc,hp,he⟩:=ziw h;rcases rj hc with k|k|k|k|k|k|k
 ·grind[a1,ykt]
 ·grind[a2,ykv]
 ·grind[a3,yks]
 ·grind[a4,yk1]
 ·rw[(a5 k).2];exact ykz hm
 ·rw[(a6 k).1]at he;rw[(a6 k).2];exact ykw hm ((Cmd.ok6 k).1 hc.1).2.1 he
 ·rw[(a7 k).2];unfold ulW;cases hu:unl c.T (ya w.U c.N) w with
  |none=>exact hm
  |some x=>exact zga _ _ _ hm hu
end
section
variable {w:Wld}
def ny(h:playW w)(c:Cmd):playW (doW aE aW w c):=by
 by_cases he:doE aE w c=0
 ·rw[ziv he];exact⟨yk0 he,yvg h.2 he⟩
 ·rw[tj he];exact h
noncomputable def kr(w:Wld):List Cmd->Wld
 |[]=>w
 |c::l=>kr (doW aE aW w c) l
noncomputable def Bi(w:Wld):List Cmd->List Int
 |[]=>[]
 |c::l=>doE aE w c::Bi (doW aE aW w c) l
def zjj:∀(l:List Cmd) (w:Wld) (m:List Cmd),kr w (l++m)=kr (kr w l) m/\Bi w (l++m)=Bi w l++Bi (kr w l) m
 |[],_,_=>⟨rfl,rfl⟩
 |c::l,w,m=>by have⟨h1,h2⟩:=zjj l (doW aE aW w c) m;exact⟨h1,by show _::Bi _ (l++m)=_;rw[h2];rfl⟩
theorem zjl:∀(l:List Cmd) (w:Wld),(Bi w l).length=l.length
 |[],_=>rfl
 |c::l,w=>by show(Bi _ l).length+1=_;rw[zjl l];rfl
def ysf{l:List Cmd}{i:Nat}(hi:i<l.length):kr w (l.take (i+1))=doW aE aW (kr w (l.take i)) l[i]/\Bi w (l.take (i+1))=Bi w (l.take i)++[doE aE (kr w (l.take i)) l[i]]:=by rw[Fad hi];have⟨h1,h2⟩:=zjj (l.take i) w [l[i]];exact⟨h1,h2⟩
def Ro:∀(l:List Cmd) {w:Wld},playW w->playW (kr w l)
 |[],_,h=>h
 |c::l,w,h=>Ro l (ny h c)
def yvf(c:Cmd)(hr:yl w.U):(aW w c).tick=w.tick:=by
 unfold aW;repeat' split
 ·rfl
 ·rfl
 ·rfl
 ·rfl
 ·exact(zis w c).1
 ·rfl
 ·exact(iy hr).1
def yq9(c:Cmd)(hr:yl w.U):(doW aE aW w c).tick=w.tick:=by
 unfold doW;split
 ·exact yvf c hr
 ·rfl
theorem ft:∀(l:List Cmd) {w:Wld},playW w->(kr w l).tick=w.tick
 |[],_,_=>rfl
 |c::l,w,h=>(ft l (ny h c)).trans (yq9 c h.1.1.2.1)
def zby(w:Wld)(u:Unt)(v:Vc):(At w u v).tick=w.tick:=by unfold At;split<;>rfl
def zcn(w:Wld)(u:Unt):(Fv w u).tick=w.tick:=by
 unfold Fv;split
 ·exact zby _ _ _
 ·split<;>rfl
def zm2(w:Wld)(u:Unt):(Ce w u).tick=w.tick:=by
 unfold Ce;split
 ·exact zby _ _ _
 ·unfold Gd;split
  ·rfl
  ·split
   ·split
    ·rfl
    ·exact zcn _ _
   ·exact zcn _ _
theorem Ot(w:Wld):∀i,(goN w i).tick=w.tick
 |0=>rfl
 |i+1=>by
  unfold goN;split
  ·split
   ·exact(zm2 _ _).trans (Ot w i)
   ·exact Ot w i
  ·exact Ot w i
noncomputable def V3(w:Wld):Wld:={vf w with tick:=(vf w).tick+1}
theorem zn7(w:Wld):(V3 w).tick=w.tick+1:=by show(goN w _).tick+1=_;rw[Ot]
def yik(h:playW w)(ht:w.tick<1099511627776):playW (V3 w):=by obtain⟨⟨⟨⟨hh,hu⟩,hc,hd⟩,hn⟩,_⟩:=yuk h;have e:(vf w).tick=w.tick:=Ot w _;have h1:=hh.1.1;exact⟨⟨⟨⟨⟨⟨by show 0<=(vf w).tick+1;omega,by show(vf w).tick+1<=_;omega⟩,hh.1.2⟩,hh.2⟩,hu⟩,hc,hd⟩,hn⟩
noncomputable def Gg(w:Wld)(l:List Cmd):Wld:=V3 (kr w l)
theorem yqr(h:playW w)(l:List Cmd):(Gg w l).tick=w.tick+1:=by unfold Gg;rw[zn7,ft l h]
def yil(h:playW w)(ht:w.tick<1099511627776)(l:List Cmd):playW (Gg w l):=
 yik (Ro l h) (by rw[ft l h];exact ht)
end
end Go.V
namespace Go.V
open Classical in
noncomputable def Dj(w:Wld)(l:List Cmd):Wld:=if w.tick=1099511627776 then w else Gg w l
open Classical in
noncomputable def oo(w:Wld)(l:List Cmd):List Int:=if w.tick=1099511627776 then []else Bi w l
open Classical in
noncomputable def ot(w:Wld):Int:=if w.tick=1099511627776 then 10 else 0
theorem zfd{w:Wld}(h:w.tick=1099511627776)(l:List Cmd):Dj w l=w/\oo w l=[]/\ot w=10:=⟨if_pos h,if_pos h,if_pos h⟩
theorem ol{w:Wld}(h:¬w.tick=1099511627776)(l:List Cmd):Dj w l=Gg w l/\oo w l=Bi w l/\ot w=0:=⟨if_neg h,if_neg h,if_neg h⟩
structure Inp where
 t:Int
 p:Int
 C:List Cmd
 deriving DecidableEq
structure Nte where
 src:Int
 dst:Int
 inp:Inp
 done:Int
 hash:Int
 have_:Int
 deriving DecidableEq
structure Per where
 id:Int
 players:Int
 delay:Int
 turn:Int
 said:Int
 mine:List Inp
 inputs:List Inp
 has:List Int
 acked:List Int
 hashes:List Int
 split:Bool
 deriving DecidableEq
def ym(n:Int):List AV:=[u64 n]
def zh(i:Inp):List AV:=[int i.t,int i.p,lst 10 zz i.C]
def yg(n:Nte):List AV:=[int n.src,int n.dst,int n.inp.t,int n.inp.p,lst 10 zz n.inp.C,int n.done,u64 n.hash,int n.have_]
def zo(p:Per):List AV:=[int p.id,int p.players,int p.delay,int p.turn,int p.said,lst 3 zh p.mine,lst 3 zh p.inputs,yc p.has,yc p.acked,lst 1 ym p.hashes,V.bool p.split]
def Inp.fits(i:Inp):Prop:=i.C.length<=1000000000/\∀c∈i.C,c.fits
abbrev maxT:Int:=1099511627776
def Nw(p:Int)(l:List Cmd):Prop:=(∀j,(hj:j<l.length)->vq l[j]/\l[j].P=p/\(0<j->(l[j-1]'θ).S<l[j].S))/\l.length<=64
def Bd(i:Inp):Prop:=(0<=i.t/\i.t<=maxT)/\(1<=i.p/\i.p<=8)/\Nw i.p i.C
def qy(a b:Inp):Prop:=a.t<b.t\/(a.t=b.t/\a.p<b.p)
instance(a b:Inp):Decidable (qy a b):=by unfold qy;infer_instance
def Di(l:List Inp):Prop:=∀j,(hj:j<l.length)->Bd l[j]/\(0<j->qy (l[j-1]'θ) l[j])
def Oa(a b:Inp):Int:=orZ [Ac a.t b.t,Ac a.p b.p]
theorem ze4(a b:Inp):Oa a b=if Ac a.t b.t≠0 then Ac a.t b.t else Ac a.p b.p:=by
 unfold Oa orZ;by_cases h:Ac a.t b.t=0
 ·rw[List.find?_cons_of_neg (by simp[h]),if_neg θz];by_cases h2:Ac a.p b.p=0
  ·rw[List.find?_cons_of_neg (by simp[h2]),h2];rfl
  ·rw[List.find?_cons_of_pos (by simp[h2])];rfl
 ·rw[List.find?_cons_of_pos (by simp[h]),if_pos h];rfl
def ordI_neg{a b:Inp}:Oa a b<0↔qy a b:=by
 rw[ze4];unfold Ac qy;repeat' split
 all_goals omega
def ordI_zero{a b:Inp}:Oa a b=0↔a.t=b.t/\a.p=b.p:=by
 rw[ze4];unfold Ac;repeat' split
 all_goals omega
def zap{w:World}{T T':BB}(hT:∀b o,T' b o->T b o){cs:List AV}{k:Nat}{a a':AV}{x:Value}(h:VRel w T (.agg (cs.set k a)) x)(ha:∀y,VRel w T a y->VRel w T' a' y):VRel w T' (.agg (cs.set k a')) x:=by
 cases h with
 |agg _ c hl hc=>
  refine .agg _ c (by rw[Fak]at hl⊢;exact hl) λi y z hy hz=>?_;by_cases e:k=i
  ·subst e;have hk:k<cs.length:=by
    have:=(Fax.1 hy).1;rw[Fak]at this;exact this
   rw[Fdj hk]at hy;cases hy;exact ha z (hc k a z (by rw[Fdj hk]) hz)
  ·rw[Fc2 e]at hy;exact(hc i y z (by rw[Fc2 e];exact hy) hz).mono hT
def yy:List Int->Int
 |[]=>0
 |x::l=>l.foldl min x
def F9:List Int->Int
 |[]=>0
 |x::l=>l.foldl max x
theorem yki{l:List Int}{i:Nat}(h:i<l.length)(h1:1<=i):yy (l.take (i+1))=min (yy (l.take i)) l[i]:=by
 cases l with
 |nil=>simp at h
 |cons x l=>
  obtain⟨j,rfl⟩:∃j,i=j+1:=⟨i-1,θ⟩
  have hj:j<l.length:=θz;show(l.take (j+1)).foldl min x=min ((l.take j).foldl min x) l[j];rw[Fad hj,Fce];rfl
theorem yk6{l:List Int}{i:Nat}(h:i<l.length)(h1:1<=i):F9 (l.take (i+1))=max (F9 (l.take i)) l[i]:=by
 cases l with
 |nil=>simp at h
 |cons x l=>
  obtain⟨j,rfl⟩:∃j,i=j+1:=⟨i-1,θ⟩
  have hj:j<l.length:=θz;show(l.take (j+1)).foldl max x=max ((l.take j).foldl max x) l[j];rw[Fad hj,Fce];rfl
theorem ykk{l:List Int}(h:0<l.length):yy (l.take 1)=l[0]:=by
 cases l with
 |nil=>simp at h
 |cons x l=>rfl
theorem yk7{l:List Int}(h:0<l.length):F9 (l.take 1)=l[0]:=by
 cases l with
 |nil=>simp at h
 |cons x l=>rfl
def yo0(x:Int)(l:List Int):l.foldl min x=x\/l.foldl min x∈l:=by
 induction l generalizing x with
 |nil=>exact .inl rfl
 |cons y l ih=>
  rcases ih (min x y)with h|h
  ·by_cases e:x<=y
   ·left;show l.foldl min (min x y)=x;rw[h];omega
   ·right;show l.foldl min (min x y)∈y::l;rw[h];have:min x y=y:=θ;rw[this];exact Fa1
  ·exact .inr (Fau _ h)
def yo1(x:Int)(l:List Int):l.foldl max x=x\/l.foldl max x∈l:=by
 induction l generalizing x with
 |nil=>exact .inl rfl
 |cons y l ih=>
  rcases ih (max x y)with h|h
  ·by_cases e:y<=x
   ·left;show l.foldl max (max x y)=x;rw[h];omega
   ·right;show l.foldl max (max x y)∈y::l;rw[h];have:max x y=y:=θ;rw[this];exact Fa1
  ·exact .inr (Fau _ h)
def R0{l:List Int}(h:0<l.length):yy l∈l:=by
 cases l with
 |nil=>simp at h
 |cons x l=>
  rcases yo0 x l with e|e
  ·show l.foldl min x∈x::l;rw[e];exact Fa1
  ·exact Fau _ e
def zgh{l:List Int}(h:0<l.length):F9 l∈l:=by
 cases l with
 |nil=>simp at h
 |cons x l=>
  rcases yo1 x l with e|e
  ·show l.foldl max x∈x::l;rw[e];exact Fa1
  ·exact Fau _ e
def countsP(p:Per)(l:List Int):Prop:=(∀j,(hj:j<l.length)->p.delay-1<=l[j]/\l[j]<=p.turn+16/\l[j]<=maxT)/\(l.length:Int)=p.players/\∀h:(p.id-1).toNat<l.length,l[(p.id-1).toNat]=p.said
def pm(p:Per):Prop:=(p.mine.length:Int)=p.said-yy p.acked/\∀j,(hj:j<p.mine.length)->Bd p.mine[j]/\p.mine[j].p=p.id/\p.mine[j].t=p.said-p.mine.length+1+j
def cz(p:Per):Prop:=∀j,(hj:j<p.inputs.length)->p.turn<=p.inputs[j].t/\p.inputs[j].p<=p.players/\∀h:(p.inputs[j].p-1).toNat<p.has.length,p.inputs[j].t<=p.has[(p.inputs[j].p-1).toNat]
def Mw(p:Per):Prop:=(1<=p.players/\p.players<=8)/\(1<=p.id/\p.id<=p.players)/\(1<=p.delay/\p.delay<=8)/\(0<=p.turn/\p.turn<=maxT)
def qj(p:Per):Prop:=Mw p/\(p.delay-1<=p.said/\p.said<=p.turn+p.delay-1/\p.said<=maxT)/\countsP p p.has/\countsP p p.acked/\p.turn-1<=yy p.has/\F9 p.acked<=p.said/\p.hashes.length<=16/\(p.hashes.length:Int)<=p.turn/\pm p/\Di p.inputs/\cz p
def Per.fits(p:Per):Prop:=(p.mine.length<=1000000000/\∀i∈p.mine,i.fits)/\(p.inputs.length<=1000000000/\∀i∈p.inputs,i.fits)/\p.has.length<=1000000000/\p.acked.length<=1000000000/\p.hashes.length<=1000000000
theorem countsP.mem{p:Per}{l:List Int}(h:countsP p l){x:Int}(hx:x∈l):p.delay-1<=x/\x<=p.turn+16/\x<=1099511627776:=by obtain⟨j,hj,rfl⟩:=List.mem_iff_getElem.1 hx;exact h.1 j hj
theorem xy{a b:Store}(h:zj a b):zj b a:=λi h1 h2=>h i h2 h1
theorem unE(a:Store):Store.empty.un a=a:=by
 have⟨o,t⟩:=a;unfold Store.un
 congr 1
 ·funext i;cases h:o i<;>simp[h,Store.empty]
 ·funext i;cases h:t i<;>simp[h,Store.empty]
theorem unA(a b c:Store):(a.un b).un c=a.un (b.un c):=by
 unfold Store.un
 congr 1
 ·funext i;cases h:c.obj i<;>simp[h]
 ·funext i;cases h:c.tok i<;>simp[h]
theorem unC{a b:Store}(h:zj a b):a.un b=b.un a:=by
 unfold Store.un
 congr 1
 ·funext i
  cases h1:a.obj i with
  |none=>cases h2:b.obj i<;>simp[h1,h2]
  |some x=>have:=(vj (h i (j6 h1))).1;simp[h1,this]
 ·funext i
  cases h1:a.tok i with
  |none=>cases h2:b.tok i<;>simp[h1,h2]
  |some x=>have:=(vj (h i (Mm h1))).2;simp[h1,this]
def disjU{a b c:Store}:zj (a.un b) c↔zj a c/\zj b c:=by refine⟨λh=>⟨λi h1=>h i (un_has.2 (.inl h1)),λi h1=>h i (un_has.2 (.inr h1))⟩,λ⟨h1,h2⟩ i h=>(un_has.1 h).elim (h1 i) (h2 i)⟩
def O4(a:Store):zj Store.empty a:=λb hb=>(hb.elim (λh=>h rfl) (λh=>h rfl):False).elim
def Sp:List (Store->Prop)->Store->Prop
 |[],S=>S=Store.empty
 |P::l,S=>∃a b,S=a.un b/\zj a b/\P a/\Sp l b
def Foc(P:Store->Prop)(K:(Store->Prop)->Store->Prop)(S:Store):Prop:=∃a g,S=a.un g/\zj a g/\P a/\∀Q a',Q a'->zj a' g->K Q (a'.un g)
theorem Sp.at{P:Store->Prop}:∀{l:List (Store->Prop)} {S:Store} (i:Nat),l[i]?=some P->Sp l S->Foc P (λQ=>Sp (l.set i Q)) S
 |R::l,S,0,hi,⟨a,b,e,hd,hP,hl⟩=>by cases hi;exact⟨a,b,e,hd,hP,λQ a' hQ hd'=>⟨a',b,rfl,hd',hQ,hl⟩⟩
 |R::l,S,i+1,hi,⟨a,b,e,hd,hP,hl⟩=>by obtain⟨c,g,rfl,hd2,h3,h4⟩:=Sp.at i (show l[i]?=some P from hi) hl;have⟨d1,d2⟩:=disjU.1 (xy hd);refine⟨c,a.un g,by rw[e,<-unA,unC (xy d1),unA],xy (disjU.2 ⟨xy d1,xy hd2⟩),h3,λQ a' hQ hd'=>?_⟩;have⟨d3,d4⟩:=disjU.1 (xy hd');exact⟨a,a'.un g,by rw[<-unA,unC (xy d3),unA],xy (disjU.2 ⟨xy d3,d2⟩),hP,h4 Q a' hQ (xy d4)⟩
theorem Foc.at{P:Store->Prop}{K:(Store->Prop)->Store->Prop}{m:List (Store->Prop)}{S:Store}(h:Foc (Sp m) K S)(j:Nat)(hj:m[j]?=some P):Foc P (λQ=>K (Sp (m.set j Q))) S:=by obtain⟨a,g,rfl,hd,hP,hK⟩:=h;obtain⟨c,e,rfl,hd2,h3,h4⟩:=hP.at j hj;have⟨d1,d2⟩:=disjU.1 hd;refine⟨c,e.un g,unA _ _ _,xy (disjU.2 ⟨xy hd2,xy d1⟩),h3,λQ a' hQ hd'=>?_⟩;have⟨d3,d4⟩:=disjU.1 (xy hd');rw[<-unA];exact hK _ _ (h4 Q a' hQ (xy d3)) (disjU.2 ⟨xy d4,d2⟩)
def Foc.imp{P:Store->Prop}{K L:(Store->Prop)->Store->Prop}{S:Store}(h:Foc P K S)(hk:∀Q S,K Q S->L Q S):Foc P L S:=by have⟨a,g,e,hd,hP,hK⟩:=h;exact⟨a,g,e,hd,hP,λQ a' hQ hd'=>hk _ _ (hK Q a' hQ hd')⟩
theorem Foc.same{P:Store->Prop}{K:(Store->Prop)->Store->Prop}{S:Store}(h:Foc P K S){Q:Store->Prop}(hq:∀a,P a->Q a):K Q S:=by obtain⟨a,g,rfl,hd,hP,hK⟩:=h;exact hK Q a (hq a hP) hd
def Foc.call{P:Store->Prop}{K:(Store->Prop)->Store->Prop}{S:Store}{Pr:Program}{f:FuncId}{xs:List AV}{T R:Ja}(h:Foc P K S)(hc:∀a,P a->ACalls Pr f xs a T)(hR:∀r a',T r a'->∀S',(∀Q:Store->Prop,Q a'->K Q S')->R r S'):ACalls Pr f xs S R:=by obtain⟨a,g,rfl,hd,hP,hK⟩:=h;exact ACalls.frame hd (hc a hP) λr a' ht hd'=>hR r a' ht _ λQ hq=>hK Q a' hq hd'
theorem Foc.look{P:Store->Prop}{K:(Store->Prop)->Store->Prop}{S:Store}{Pr:Program}{f:FuncId}{xs:List AV}{R:Ja}(h:Foc P K S)(r:AV)(hc:∀a,P a->∀T:AV->Store->Prop,T r a->ACalls Pr f xs a T)(hR:R r S):ACalls Pr f xs S R:=by obtain⟨a,g,rfl,hd,hP,hK⟩:=h;refine ACalls.frame hd (hc a hP (λx a'=>x=r/\a'=a) ⟨rfl,rfl⟩) λx a' ⟨h1,h2⟩ _=>?_;subst h1 h2;exact hR
theorem Sp.allE:∀{l:List (Store->Prop)},(∀P∈l,P Store.empty)->Sp l Store.empty
 |[],_=>rfl
 |P::l,h=>⟨Store.empty,Store.empty,rfl,O4 _,h P Fa1,Sp.allE λQ hq=>h Q (Fau _ hq)⟩
theorem Sp.none{l:List (Store->Prop)}{P:Store->Prop}{S:Store}(hP:P Store.empty)(h:Sp l S):Sp (P::l) S:=⟨Store.empty,S,(unE S).symm,O4 S,hP,h⟩
def ja(q:Nat)(l:List AV)(a:Store):Prop:=a=Store.empty.sO q (.cells l)
def boxHas{q i:Nat}{x:AObj}:(Store.empty.sO q x).has i↔i=q:=by
 unfold Store.has Store.sO Store.empty;by_cases e:i=q
 ·simp[e]
 ·simp[y9 e,e]
section
variable {K:(Store->Prop)->Store->Prop} {S:Store} {q:Nat} {cs:List AV}
theorem Foc.obj(h:Foc (ja q cs) K S):S.obj q=some (.cells cs):=by obtain⟨a,g,rfl,hd,rfl,hK⟩:=h;exact yf hd (zd _ _ _)
theorem Foc.store(h:Foc (ja q cs) K S)(ds:List AV):K (ja q ds) (S.sO q (.cells ds)):=by
 obtain⟨a,g,rfl,hd,rfl,hK⟩:=h;have hg:¬g.has q:=hd q (boxHas.2 rfl);have e:(Store.sO (Store.un (Store.empty.sO q (.cells cs)) g) q (.cells ds))=(Store.empty.sO q (.cells ds)).un g:=by rw[Fs hg,yw]
 rw[e];exact hK _ _ rfl λi h1 h2=>hg (by rw[boxHas.1 h1]at h2;exact h2)
end
def Sp.new{l:List (Store->Prop)}{S:Store}(h:Sp l S){q:Nat}(hq:Fresh S q)(cs:List AV):Sp (ja q cs::l) (S.sO q (.cells cs)):=by
 have hn:=fresh_iff.1 hq;refine⟨_,S,?_,λi h1 h2=>hn (by rw[boxHas.1 h1]at h2;exact h2),rfl,h⟩
 conv=>lhs;rw[<-unE S]
 exact Fs hn
def Sp.more{l:List (Store->Prop)}{P:Store->Prop}{a S:Store}(hP:P a)(h:Sp l S)(hd:zj a S):Sp (P::l) (a.un S):=⟨a,S,rfl,hd,hP,h⟩
def Sp.last:∀{l:List (Store->Prop)} {P:Store->Prop} {a S:Store},P a->Sp l S->zj a S->Sp (l++[P]) (a.un S)
 |[],P,a,S,hP,h,hd=>by have e:S=Store.empty:=h;subst e;exact⟨a,_,rfl,hd,hP,rfl⟩
 |Q::l,P,a,S,hP,⟨b,c,e,hd2,hQ,hl⟩,hd=>by subst e;have⟨d1,d2⟩:=disjU.1 (xy hd);exact⟨b,a.un c,by rw[<-unA,unC (xy d1),unA],xy (disjU.2 ⟨xy d1,xy hd2⟩),hQ,Sp.last hP hl (xy d2)⟩
def Foc.last{m:List (Store->Prop)}{K:(Store->Prop)->Store->Prop}{P:Store->Prop}{a S:Store}(h:Foc (Sp m) K S)(hP:P a)(hd:zj a S):K (Sp (m++[P])) (a.un S):=by obtain⟨b,g,rfl,hd2,hm,hK⟩:=h;have⟨d1,d2⟩:=disjU.1 (xy hd);rw[<-unA];exact hK _ _ (Sp.last hP hm (xy d1)) (disjU.2 ⟨xy d2,hd2⟩)
theorem Foc.box{m:List (Store->Prop)}{K:(Store->Prop)->Store->Prop}{S:Store}(h:Foc (Sp m) K S){q:Nat}(hq:Fresh S q)(cs:List AV):K (Sp (m++[ja q cs])) (S.sO q (.cells cs)):=by
 have hn:=fresh_iff.1 hq;have e:S.sO q (.cells cs)=(Store.empty.sO q (.cells cs)).un S:=by
  conv=>lhs;rw[<-unE S]
  exact Fs hn
 rw[e];exact h.last rfl λi h1 h2=>hn (by rw[boxHas.1 h1]at h2;exact h2)
def TokR(k:Nat)(v:AV)(l:List (List AV))(a:Store):Prop:=(l=[]/\v=.s (.slice none 0 0)/\a=Store.empty)\/(l≠[]/\∃t,v=.lst k l (some t)/\a=Store.empty.sT t (some (l.length*k)))
def tokHas{t i:Nat}{n:Nat}:(Store.empty.sT t (some n)).has i↔i=t:=by
 unfold Store.has Store.sT Store.empty;by_cases e:i=t
 ·simp[e]
 ·simp[y9 e,e]
theorem TokR.nil(k:Nat):TokR k (.s (.slice none 0 0)) [] Store.empty:=.inl ⟨rfl,rfl,rfl⟩
def TokR.le{k:Nat}{v:AV}{l:List (List AV)}{a:Store}(h:TokR k v l a):AV.le v (.lst k l none):=by
 rcases h with⟨rfl,rfl,_⟩|⟨_,t,rfl,_⟩
 ·exact AV.le_nil k
 ·exact AV.le_tok _ _ _
def Foc.app{P:Program}{c:Cfg}{e:TypeId}{ie:TI}(hie:c.I e=some ie)(h0:Nat.blt 0 ie.size=true){K:(Store->Prop)->Store->Prop}{S:Store}{v:AV}{l:List (List AV)}(h:Foc (TokR ie.size v l) K S)
  {x:AV} {rows:List (List AV)} (hx:kh ie.size (.av x)=some rows) (hne:rows≠[]) (hroom:room (l++rows).length ie.bytes) {L:Ja}
  (hL:∀b S',K (TokR ie.size (.lst ie.size (l++rows) (some b)) (l++rows)) S'->L (.lst ie.size (l++rows) (some b)) S'):appendK P c S e (.av v) (.av x) L:=by
 obtain⟨a,g,rfl,hd,ht,hK⟩:=h
 have key:∀b,¬g.has b->K (TokR ie.size (.lst ie.size (l++rows) (some b)) (l++rows)) ((Store.empty.sT b (some ((l++rows).length*ie.size))).un g):=λb hb=>
  hK _ _ (.inr ⟨λe=>hne (List.append_eq_nil_iff.1 e).2,b,rfl,rfl⟩) λi h1 h2=>hb (by rw[tokHas.1 h1]at h2;exact h2)
 have e2:∀b n,¬g.has b->g.sT b (some n)=(Store.empty.sT b (some n)).un g:=λb n hb=>by
  have:=(vj hb).2;have⟨o,t⟩:=g;unfold Store.un Store.sT
  congr 1
  ·funext i;cases h:o i<;>simp[h,Store.empty]
  ·funext i
   by_cases e:i=b
   ·subst e;simp_all
   ·simp only[y9 e,cond_false];cases h:t i<;>simp[h,Store.empty]
 refine⟨.inl ?_⟩;unfold gj;refine za ie hie ?_;rcases ht with⟨rfl,rfl,rfl⟩|⟨hl,t,rfl,rfl⟩
 ·refine za rows hx ⟨hroom,λv st' ho=>?_⟩;rcases ho with⟨_,e,_⟩|⟨_,b,hf,rfl,rfl⟩
  ·exact absurd e hne
  ·rw[unE]at hf⊢;have hb:=fresh_iff.1 hf;rw[show rows=[]++rows from rfl,e2 _ _ hb];exact hL _ _ (key b hb)
 ·have hgt:¬g.has t:=hd t (tokHas.2 rfl);simp only[Fb5,h0,Fd4,cond_true];refine za rows hx ⟨K7 hd (Kd _ _ _),hroom,λv st' ho=>?_⟩;have e1:(Store.un (Store.empty.sT t (some (l.length*ie.size))) g).sT t none=g:=by
   have:=(vj hgt).2;have⟨o,tk⟩:=g;unfold Store.un Store.sT
   congr 1
   ·funext i;cases h:o i<;>simp[h,Store.empty]
   ·funext i
    by_cases e:i=t
    ·subst e;simp_all
    ·simp only[y9 e,cond_false];cases h:tk i<;>simp[h,Store.empty]
  rw[e1]at ho;rcases ho with⟨_,e,_⟩|⟨_,b,hf,rfl,rfl⟩
  ·exact absurd (List.append_eq_nil_iff.1 e).1 hl
  ·have hb:¬g.has b:=fresh_iff.1 hf;rw[e2 _ _ hb];exact hL _ _ (key b hb)
end Go.V
namespace Go.Proofs
open Go Go.V
theorem Foc.row{α:Type}{k:Nat}{f:α->List AV}{v:AV}{l:List α}{K:(Store->Prop)->Store->Prop}{S:Store}(h:Foc (λa=>RowsQ k f a v l) K S)(hne:l≠[]):
  ∃b cap L,v=.s (.slice (some ⟨b,0,none⟩) l.length cap)/\S.obj b=some (.cells ((rws f l).flatten++L))/\l.length<=cap/\cap*k<=l.length*k+L.length/\cap<=9223372036854775807∧
   ∀(Q:Store->Prop) (x:AObj),(∀a,a.obj b=some x->Q a)->K Q (S.sO b x):=by
 obtain⟨a,g,rfl,hd,hP,hK⟩:=h;rcases hP with(⟨_,e⟩|⟨b,cap,L,e,ho,h1,h2,h3⟩)|⟨_,_,_,e⟩
 ·exact absurd e hne
 rotate_left
 ·exact absurd e hne
 refine⟨b,cap,L,e,yf hd ho,h1,h2,h3,λQ x hQ=>?_⟩;have hb:a.has b:=j6 ho;have hg:¬g.has b:=hd b hb;rw[Fs hg];refine hK Q _ (hQ _ (zd _ _ _)) λi h4 h5=>?_;by_cases e:i=b
 ·subst e;exact hg h5
 ·refine hd i ?_ h5;unfold Store.has at h4⊢
  rwa [zf e]at h4
def Foc.look1{P:Store->Prop}{K:(Store->Prop)->Store->Prop}{S:Store}(h:Foc P K S):∃a g,S=a.un g/\zj a g/\P a:=by have⟨a,g,e,hd,hP,_⟩:=h;exact⟨a,g,e,hd,hP⟩
theorem Foc.grow{α:Type}{k:Nat}{f:α->List AV}{v:AV}{l:List α}{K:(Store->Prop)->Store->Prop}{S:Store}(h:Foc (λa=>RowsQ k f a v l) K S){b:Nat}
  (hb:Fresh S b\/∃c0,0<c0/\v=.s (.slice (some ⟨b,0,none⟩) l.length c0)) (Q:Store->Prop) (x:AObj) (hQ:∀a,a.obj b=some x->Q a):K Q (S.sO b x):=by
 obtain⟨a,g,rfl,hd,hP,hK⟩:=h;have hg:¬g.has b:=by
  rcases hb with hb|⟨c0,h0,e⟩
  ·exact λhh=>fresh_iff.1 hb (un_has.2 (.inr hh))
  ·rcases hP with(⟨e2,_⟩|⟨b2,cap,L,e2,ho,_⟩)|⟨a2,_,e2,_⟩
   ·rw[e]at e2;have:=(Value.slice.inj (AV.s.inj e2)).1;cases this
   ·rw[e]at e2;cases e2;exact hd b (j6 ho)
   ·rw[e]at e2;have:=(Value.slice.inj (AV.s.inj e2)).2.2;omega
 rw[Fs hg];refine hK Q _ (hQ _ (zd _ _ _)) λi h4 h5=>?_;by_cases e:i=b
 ·subst e;exact hg h5
 ·refine hd i ?_ h5;unfold Store.has at h4⊢
  rwa [zf e]at h4
end Go.Proofs
namespace Go.V
open Go
section
variable {P:Program} {c:Cfg} {ie:TI} {v src:AV}
def yt5{α:Type}{f:α->List AV}{e:TypeId}(hie:c.I e=some ie)(hf:∀x,(f x).length=ie.size)(hby:ie.bytes<=1000){st:Store}{l:List α}(hv:RowsQ ie.size f st v l)(l2:List α)(hsrc:kh ie.size (.av src)=some (rws f l2))(hlen:l.length+l2.length<=1000000000){K:Ja}
  (h0:l2=[]->K v st)
  (h:l2≠[]->∀b cap L,(Fresh st b\/∃c0,0<c0/\v=.s (.slice (some ⟨b,0,none⟩) l.length c0))->(l++l2).length<=cap->cap*ie.size<=(l++l2).length*ie.size+L.length->cap<=9223372036854775807->
   K (.s (.slice (some ⟨b,0,none⟩) (l++l2).length cap)) (st.sO b (.cells ((rws f (l++l2)).flatten++L)))):appendK P c st e (.av v) (.av src) K:=by
 refine⟨.inr ⟨v,_,rfl,rfl,?_⟩⟩;have hfl:=qc hf l;have hfl2:=qc hf l2;have hl2:(rws f l2).length=l2.length:=zi _;have hmul:(l.length+l2.length)*ie.bytes<=1000000000*1000:=Fde hlen hby;have happ:(rws f (l++l2)).flatten=(rws f l).flatten++(rws f l2).flatten:=Gm _ _;have hll:(l++l2).length=l.length+l2.length:=Fac;have empty:∀a:Option Addr,Ia a->l=[]->v=.s (.slice a 0 0)->AppX P c st e v src K:=λa ha hl0 hva=>by
  subst hl0 hva;by_cases h2:l2=[]
  ·have:=h0 h2;simp_all[yt1]
  ·have h3:0<l2.length:=Fcu.2 h2;refine zal hie hsrc ⟨δ,δ⟩ θ (λb' cap' hb hc hc2=>?_);rw[hl2]at hc⊢;exact h h2 b' cap' (List.replicate ((cap'-l2.length)*ie.size) .any) (.inl hb) (by simpa using hc) (by simp only[Faz,Fdo,<-Fb8];grind) hc2
 rcases hv with(⟨hv,hl0⟩|⟨b,cap,L,rfl,ho,h1,h2,h3⟩)|⟨a,ha,hv,hl0⟩
 ·exact empty none (λx hx=>γ) hl0 hv
 ·by_cases hz:l2=[]
  ·subst hz;refine Vd hie (cap:=cap) ho δ h1 hsrc ⟨by rw[hl2];omega,by rw[hl2];omega⟩ (λhc=>?_) (λhc b' cap' hb hc1 hc2=>absurd h1 (by rw[hl2]at hc;simpa using hc));have e1:zq ((rws f l).flatten++L) (l.length*ie.size) (rws f ([]:List α)).flatten=(rws f l).flatten++L:=by
    rw[wu hfl];simp[rws]
   rw[e1];have e2:st.sO b (.cells ((rws f l).flatten++L))=st:=by
    have⟨o,t⟩:=st;unfold Store.sO
    congr 1
    funext i
    by_cases e:i=b
    ·subst e;simp;exact ho.symm
    ·simp[y9 e]
   rw[e2];exact h0 rfl
  refine Vd hie (cap:=cap) ho δ h1 hsrc ⟨by rw[hl2];omega,by rw[hl2];omega⟩ (λhc=>?_) (λhc b' cap' hb hc1 hc2=>?_)
  ·rw[hl2]at hc⊢;have h4:0<l2.length:=Fcu.2 hz;have hcm:(l.length+l2.length)*ie.size<=cap*ie.size:=Fa2 _ hc;rw[Fb8]at hcm;have e1:zq ((rws f l).flatten++L) (l.length*ie.size) (rws f l2).flatten=(rws f (l++l2)).flatten++L.drop (l2.length*ie.size):=by
    rw[wu hfl,happ,hfl2]
   rw[e1,<-hll];exact h hz b cap (L.drop (l2.length*ie.size)) (.inr ⟨cap,θ,rfl⟩) θ (by grind[Nat.add_mul]) h3
  ·rw[hl2]at hc hc1⊢;have e1:((rws f l).flatten++L).take (l.length*ie.size)++(rws f l2).flatten++List.replicate ((cap'-(l.length+l2.length))*ie.size) .any=(rws f (l++l2)).flatten++List.replicate ((cap'-(l.length+l2.length))*ie.size) .any:=by grind
   rw[e1,<-hll];exact h hz b' cap' (List.replicate ((cap'-(l++l2).length)*ie.size) .any) (.inl hb) θ (by rw[Faz,<-Fb8];exact Fa2 _ θ) hc2
 ·exact empty a ha hl0 hv
def Foc.appL{α:Type}{f:α->List AV}{e:TypeId}(hie:c.I e=some ie)(hf:∀x,(f x).length=ie.size)(hby:ie.bytes<=1000){K:(Store->Prop)->Store->Prop}{S:Store}{l:List α}(h:Foc (λa=>RowsQ ie.size f a v l) K S)(l2:List α)(hsrc:kh ie.size (.av src)=some (rws f l2))(hlen:l.length+l2.length<=1000000000){L:Ja}
  (hL:∀oa cap S',K (λa=>RowsQ ie.size f a (.s (.slice oa (l++l2).length cap)) (l++l2)) S'->L (.s (.slice oa (l++l2).length cap)) S'):appendK P c S e (.av v) (.av src) L:=by
 have hv:RowsQ ie.size f S v l:=by have⟨a,g,e,hd,hP⟩:=Go.Proofs.Foc.look1 h;rw[e];exact RowsQ.unL hP hd
 refine yt5 hie hf hby hv l2 hsrc hlen (λe=>?_) (λhne b cap Lc q1 q2 q3 q4=>?_)
 ·subst e;obtain⟨oa,cap,rfl,_⟩:=hv.form;have:=hL oa cap S;rw[Fbi]at this;exact this (h.same λa ha=>ha)
 ·exact hL _ _ _ (Go.Proofs.Foc.grow h q1 _ _ λa ha=>.inl (.inr ⟨b,cap,Lc,rfl,ha,q2,q3,q4⟩))
end
open Go
def ux{w:World}{T:BB}{b n cap k:Nat}{rows:List (List AV)}{pad:List AV}(ho:CellsRel w T (rows.flatten++pad) b){T':BB}(hT:∀o,¬T' b o)(hTT:∀b o,T' b o->T b o)(hn:rows.length=n)(hcap:n<=cap)
  (hk:∀row∈rows,row.length=k) (hall:∀row∈rows,∀x∈row,x.one=true):VRel w T' (.lst k rows none) (.slice (some ⟨b,0,none⟩) n cap):=by
 have⟨cs,e0,fr,hb0,huf,hlen,hrel⟩:=ho;subst hn;have at1:∀(i:Nat) (row:List AV) (j:Nat) (x:AV),rows[i]?=some row->row[j]?=some x->∃v,cs[i*k+j]?=some v/\VRel w T x v/\xe v=true:=by intro i row j x hi hj;have h5:=Ku hk hi hj;have hlt:=(Fax.1 h5).1;have h6:(rows.flatten++pad)[i*k+j]?=some x:=δ;have hlt2:i*k+j<cs.size:=δ;have h7:=hrel _ _ cs[i*k+j] h6 (by simp[hlt2]);exact⟨_,by simp[hlt2],h7,bo h7 (hall row (Fa4 hi) x (Fa4 hj))⟩
 refine VRel.lst rows none b 0 cap k (λp=>cs.getD p undef) hcap (λi row hi=>hk row (Fa4 hi)) (λ_ h=>ω) (λi row j x hi hj=>?_) (λi row j x hi hj=>?_) (λi row j x hi hj=>?_)
 ·have⟨v,h5,hv,h6⟩:=at1 i row j x hi hj;simp_all [World.cell?]
 ·have⟨v,h5,hv,h6⟩:=at1 i row j x hi hj;simp_all
 ·have⟨v,h5,hv,h6⟩:=at1 i row j x hi hj;rw[Fbm,h5];exact hv.mono λb o h=>hTT b o h
section
variable {α:Type} {f:α->List AV} {k:Nat}
def RowsQ.borrowL{st:Store}{v:AV}{l:List α}(hf:∀x,(f x).length=k)(hs:∀x,∀y∈f x,y.one=true)(hv:RowsQ k f st v l){Oth M:BB}{w:World}(sto:StoreOK st Oth M w){x:Value}(hx:VRel w (λb o=>M b o\/Oth b o) v x):
  VRel w (λb o=>(M b o\/Oth b o)/\st.obj b=none) (lst k f l) x:=by
 rcases hv with(⟨rfl,rfl⟩|⟨b,cap,L,rfl,ho,h1,h2,h3⟩)|⟨a,ha,rfl,rfl⟩
 ·cases hx;exact AV.le_nil k _ _ _ (.s _)
 ·cases hx
  exact ux (sto.obj b _ ho).1 (λo hT=>ψr) (λ_ _ h=>h.1) (zi l) h1
   (λrow hr=>by obtain⟨n,_,rfl⟩:=Fag.1 hr;exact hf n) (λrow hr y hy=>by obtain⟨n,_,rfl⟩:=Fag.1 hr;exact hs n y hy)
 ·cases hx;exact .nil k a
end
open Go
def AWp.freezeL{P:Program}{c:Cfg}{code:Code}{Q:Exit->Fr->Store->Prop}{A:Fr}{st:Store}{d b n cap k:Nat}{rows:List (List AV)}{pad:List AV}
    (hA:A.t d=.av (.s (.slice (some ⟨b,0,none⟩) n cap))) (ho:st.obj b=some (.cells (rows.flatten++pad))) (ht:st.tok b=none) (hn:rows.length=n) (hcap:n<=cap)
    (hk:∀row∈rows,row.length=k) (hall:∀row∈rows,∀x∈row,x.one=true)
    (h:AWp P c code Q (A.put d (.av (.lst k rows none))) (st.dO b)):AWp P c code Q A st:=by
  refine⟨λOth M a w ⟨β,sim⟩=>?_⟩;have hs:∀b' o,((M b' o/\b'≠b)\/Oth b' o)->(M b' o\/Oth b' o):=λ_ _ h=>h.imp (·.1) id;have sim':SimB c.N Oth β (A.put d (.av (.lst k rows none))) (st.dO b) (λb' o=>M b' o/\b'≠b) a w:=by
    refine{tsz:=sim.tsz,dfr:=sim.dfr.sub λ_ _ h=>h.1,tm:=λi=>?_,bx:=λj l hj=>⟨(sim.bx j l hj).1.mono hs,λo=>⟨(sim.bx j l hj).2 o,?_⟩⟩,inj:=sim.inj,sep:=λj b' hj hb'=>?_,sto:=?_}
    · by_cases hi:i=d
      · subst hi
        have e:(A.put i (.av (.lst k rows none))).t i=.av (.lst k rows none):=by show(bif Nat.beq i i then _ else A.t i)=_;simp
        rw[e];have h1:=sim.tm i;rw[hA]at h1;have h1:VRel w (λb o=>M b o\/Oth b o) (.s (.slice (some ⟨b,0,none⟩) n cap)) (a.tmps.getD i undef):=h1;generalize a.tmps.getD i undef=v at h1;cases h1;have h5:=sim.sto.obj b _ ho;exact ux h5.1 (λo hT=>hT.elim (λh=>h.2 rfl) λh=>sim.sto.dis _ _ h (h5.2 o)) (λ_ _ h=>hs _ _ h) hn hcap hk hall
      · have e:(A.put d (.av (.lst k rows none))).t i=A.t i:=by
          show(bif Nat.beq i d then _ else A.t i)=_;grind[vw]
        rw[e];have h1:=sim.tm i;generalize A.t i=x at h1;cases x with
        |any=>trivial
        |und=>exact h1
        |av x=>exact VRel.mono hs h1
        |bx k off=>exact h1
    · exact sim.sep j b (λe=>by rw[show A.bx j=some l from hj]at e;cases e) (.inl δ)
    · refine sim.sep j b' hj ?_
      rcases hb' with hb'|hb'
      · cases hx:(st.dO b).obj b' with
        |none=>grind
        |some y=>grind[H0]
      · exact .inr hb'
    · exact { obj:=λb' y hy=>⟨(sim.sto.obj b' y (H0 hy).2).1.mono hs,λo=>⟨(sim.sto.obj b' y (H0 hy).2).2 o,(H0 hy).1⟩⟩
              tok:=λb' top htk=>ψ4
              mlt:=λb' o hm=>sim.sto.mlt b' o hm.1,olt:=sim.sto.olt,dis:=λb' o ho hm=>sim.sto.dis b' o ho hm.1}
  refine Code.wpF_mono ?_ (h.out Oth _ a w ⟨β,sim'⟩);rintro e a' w' ⟨A',st',M',h1,h2,h3⟩;exact⟨A',st',M',h1,h2,{size:=h3.size,keep:=λb' o hb hm=>h3.keep b' o hb λh=>hm h.1,blk:=λb' hb hm=>h3.blk b' hb λo h=>hm o h.1,shp:=h3.shp,sub:=λb' o hm hb=>(h3.sub b' o hm hb).1,tape:=h3.tape,os:=h3.os,output:=h3.output}⟩
def yrw{b:Nat}{l:List AV}{m:List (Store->Prop)}{S:Store}(h:Sp (ja b l::m) S):S.obj b=some (.cells l)/\S.tok b=none/\Sp m (S.dO b):=by
  obtain⟨a,g,rfl,hd,rfl,hg⟩:=h;have hb:¬g.has b:=hd b (boxHas.2 rfl);have e:(Store.un (Store.empty.sO b (.cells l)) g).dO b=g:=by
    have⟨h1,h2⟩:=vj hb;have⟨o,t⟩:=g;unfold Store.dO Store.un Store.sO Store.empty
    congr 1
    · funext i
      by_cases e:i=b
      · subst e;simp_all
      · simp only[y9 e,cond_false];cases h:o i<;>simp[h]
    · funext i;cases h:t i<;>simp[h]
  refine⟨yf hd (zd _ _ _),?_,by rw[e];exact hg⟩;have⟨h1,h2⟩:=vj hb;show(match g.tok b with|some x=>some x|none=>_)=_;rw[h2];rfl
def R5{a b c:Inp}(h:qy a b)(h2:qy b c):qy a c:=by unfold qy at*;omega
def p9{a:Inp}(h:qy a a):False:=by unfold qy at h;omega
def Wr{l:List Inp}(hr:Di l):∀{a b:Nat} (hb:b<l.length) (hab:a<b),qy (l[a]'θ) l[b]:=by
 intro a b;induction b with
 |zero=>intro _ h;omega
 |succ b ih=>
  intro hb hab;have h1:=(hr (b+1) hb).2 θ;simp only[Fdk]at h1;by_cases e:a=b
  ·subst e;exact h1
  ·exact R5 (ih θ θ) h1
def cu(l:List Inp)(x:Inp)(i:Nat):Prop:=i<=l.length/\(∀j,(h:j<l.length)->j<i->qy l[j] x)/\∀j,(h:j<l.length)->i<=j->¬qy l[j] x
def j5(l:List Inp)(x:Inp):List Inp:=l.takeWhile (λy=>decide (qy y x))++x::l.dropWhile (λy=>decide (qy y x))
def zcd{α:Type}(p:α->Bool):∀(l:List α) (i:Nat),i<=l.length->(∀j,(h:j<l.length)->j<i->p l[j]=true)->(∀h:i<l.length,p l[i]=false)->l.takeWhile p=l.take i/\l.dropWhile p=l.drop i
 |[],i,hi,_,_=>φ
 |x::l,0,_,_,h2=>by have:=h2 φ;simp only[Fb1]at this;simp[List.takeWhile,List.dropWhile,this]
 |x::l,i+1,hi,h1,h2=>by have h0:=h1 0 φ θ;simp only[Fb1]at h0;have:=zcd p l i (by simpa using hi) (λj hj hji=>by have:=h1 (j+1) (by simpa using hj) θ;simpa using this) (λhlt=>by have:=h2 (by simpa using hlt);simpa using this);simp[List.takeWhile,List.dropWhile,h0,this.1,this.2]
theorem yml{l:List Inp}{x:Inp}{i:Nat}(h:cu l x i):j5 l x=l.take i++x::l.drop i:=by have⟨h1,h2⟩:=zcd (λy=>decide (qy y x)) l i h.1 (λj hj hji=>by simpa using h.2.1 j hj hji) (λhlt=>by simpa using h.2.2 i hlt (Fah _));unfold j5;rw[h1,h2]
def Cn(l:List Inp)(x:Inp):Prop:=∃y∈l,y.t=x.t/\y.p=x.p
def ynn{l:List Inp}(hr:Di l){x:Inp}{i:Nat}(h:cu l x i):Cn l x↔∃hi:i<l.length,Oa l[i] x=0:=by
 constructor
 ·rintro⟨y,hy,h1,h2⟩;obtain⟨j,hj,rfl⟩:=Faf hy;have hn:¬qy l[j] x:=by unfold qy;omega
  have hij:i<=j:=Nat.le_of_not_lt λg=>hn (h.2.1 j hj g);have e:j=i:=by refine Decidable.byContradiction λhne=>?_;have g:=Wr hr hj (show i<j by omega);have:=h.2.2 i θ (Fah _);unfold qy at g this;omega
  subst e;exact⟨hj,ordI_zero.2 ⟨h1,h2⟩⟩
 ·rintro⟨hi,h0⟩;exact⟨l[i],Faa hi,ordI_zero.1 h0⟩
open Go
theorem zlh(z:Array Value)(m:Nat):(Builtin.zeroCells z m).toList=(List.replicate m z.toList).flatten:=by
 have h:(Builtin.zeroCells z m).toList=(List.range (m*z.size)).map λi=>z[i%z.size]! :=by simp[Builtin.zeroCells]
 rw[h];clear h;induction m with
 |zero=>simp
 |succ m ih=>
  rw[Fd1,Nat.add_comm,List.range_add,Fav,List.replicate_succ,Fd7,<-ih]
  congr 1
  ·apply Fco
   ·simp
   ·intro i h1 h2;have h3:i<z.size:=by simpa using h2
    simp[Nat.mod_eq_of_lt h3,h3]
  ·rw[Fdc];apply Fbw;intro i _;simp
section
variable {P:Program} {c:Cfg} {st:Store}
def yuy{o:Oper}{cl:Call}{t e:TypeId}{x:Operand}(ho:o.op=.call cl)(hcl:cl.callee=.builtin .clear)(hargs:cl.args=#[x])(hat:cl.argTypes[0]?=some t)
  {it ie:TI} (hit:c.I t=some it) (hty:it.ty=.slice e) (hie:c.I e=some ie) {b off m cap:Nat} {l:List AV} (hm:0<m) (hb:st.obj b=some (.cells l)) (hn:off+m*ie.zero.length<=l.length) (hone:∀v∈ie.zero,xe v=true)
  {R:Ja} (h:R (.tup []) (st.sO b (.cells (zq l off ((List.replicate m ie.zero).flatten.map AV.s))))):AEff P c o [.s (.slice (some ⟨b,off,none⟩) m cap)] st R:=by
 refine⟨λOth M w ρ hI sto hr=>?_⟩;have hops:o.op.operands=#[x]:=θ5;rw[hops]at hr;have hr:Reads w (λb o=>M b o\/Oth b o) [.s (.slice (some ⟨b,off,none⟩) m cap)] [ρ x]:=θl;obtain⟨u,he,h1⟩:=Kh hr;simp only[Fcm,and_true]at he;rw[<-he]at h1;have h1:=VRel.eq_s h1;have ht:=xq (hI _ _ hit) hty;have hie:=hI _ _ hie;obtain⟨⟨cs,e0,fr,hb0,huf,hlen,hrel⟩,hM⟩:=sto.obj b _ hb;obtain⟨z,hz1,hz2⟩:=Ln (P:=P) hie w;have hzc:(Builtin.zeroCells z.cells m).toList=(List.replicate m ie.zero).flatten:=by rw[zlh,hz2]
 have hfl:((List.replicate m ie.zero).flatten).length=m*ie.zero.length:=φ;obtain⟨w',hw1,hw2⟩:=Kf (P:=P) w b off (List.replicate m ie.zero).flatten 0 w cs e0 fr hb0 (.inl huf) (by rw[hfl];grind) (λv hv=>by obtain⟨r,hr,hv⟩:=Fdw.1 hv;rw[(List.mem_replicate.1 hr).2]at hv;exact hone v hv);have hund:=yk (P:=P) ht;obtain⟨m',rfl⟩:∃m',m=m'+1:=⟨m-1,θ⟩
 have hrun:(execOp ρ o).run P w=.ok (.value (.tuple #[])) w':=ψ5;rw[hrun];obtain⟨k1,k2⟩:=Cv sto hb (Reads.map_s (w:=w) (T:=λb o=>M b o\/Oth b o) (List.replicate (m'+1) ie.zero).flatten) (by trivial);exact⟨_,_,M,h,vx Reads.nil,k1,k2⟩
end
open Go Go.Lib
section
variable {P:Program} {c:Cfg} {st:Store}
def yu0{o:Oper}{cl:Call}{t tn e:TypeId}{x y:Operand}(ho:o.op=.call cl)(hcl:cl.callee=.builtin .append)(hargs:cl.args=#[x,y])(hat:cl.argTypes=#[t,tn])
  {it itn ie:TI} (hit:c.I t=some it) (hty:it.ty=.slice e) (hie:c.I e=some ie) (htn:c.I tn=some itn) {kn:IntKind} (hnt:itn.ty=.int kn) {k:IntKind} {z:Int} {b n m cap:Nat} {l:List AV} (hb:st.obj b=some (.cells l)) (hcap:cap*ie.size<=l.length) (hn:n<=cap) (hz:z=(m:Int)) (hm:0<m) (hs:0<ie.size) (hg:cap<n+m) (hroom:room (n+m) ie.bytes)
  {R:Ja} (h:∀b' cap',Fresh st b'->n+m<=cap'->cap'<=9223372036854775807->R (.s (.slice (some ⟨b',0,none⟩) (n+m) cap')) (st.sO b' (.cells (l.take (n*ie.size)++List.replicate ((cap'-n)*ie.size) .any)))):AEff P c o [.s (.slice (some ⟨b,0,none⟩) n cap),.s (.int k z)] st R:=by
 subst hz;refine⟨λOth M w ρ hI sto hr=>?_⟩;have hops:o.op.operands=#[x,y]:=θ5;rw[hops]at hr;have hr:Reads w (λb o=>M b o\/Oth b o) [.s (.slice (some ⟨b,0,none⟩) n cap),.s (.int k (m:Int))] [ρ x,ρ y]:=θl;have⟨u,v,he,h1,h2⟩:=N7 hr;simp only[Fcm,and_true]at he;rw[<-he.1]at h1;rw[<-he.2]at h2;have h1:=VRel.eq_s h1;have h2:=VRel.eq_s h2;have ht:=xq (hI _ _ hit) hty;have htn:=I5 (hI _ _ htn) hnt;have hie:=hI _ _ hie;have⟨inf,i1,i2,i3,z0,i4,i5⟩:=hie.info;have hnn:n*ie.size<=l.length:=Fbx (Fa2 _ hn) hcap;have⟨old,hold1,hold2,hold3⟩:=sw (P:=P) (cap:=cap) (sto.obj b _ hb).1 hnn;have⟨hr1,hr2⟩:=hroom;have hz:z0.cells.size=ie.size:=by have h3:=hie.zsz;rw[<-i5,Fcp]at h3;exact h3
 have hc3:Builtin.nextslicecap (n+m) cap*inf.bytes<=281474976710656:=by have h3:=nextslicecap_le hg;have h4:Builtin.nextslicecap (n+m) cap*ie.bytes<=2*(n+m)*ie.bytes:=Fa2 _ h3;have h5:2*(n+m)*ie.bytes=2*((n+m)*ie.bytes):=Nat.mul_assoc _ _ _;rw[i3];omega
 have h48:m*inf.bytes<=281474976710656:=by have h4:m*ie.bytes<=(n+m)*ie.bytes:=Fa2 _ θ;rw[i3];omega
 have hrun:=λty=>run_append_grow_zeros (P:=P) w t tn ty e inf z0 k kn ht htn i1 i4 (some ⟨b,0,none⟩) n cap old.toList (by rw[i2];exact hold3 w.drew rfl) m hm θ hg θ h48 hc3;have gd:Grow w w.drew:=Grow.drew w;have sto1:=sto.grow gd;obtain⟨q1,q2⟩:n+m<=grownCap w (n+m) cap e/\grownCap w (n+m) cap e<=9223372036854775807:=by unfold grownCap;simp only[Question.cut];have:=Nat.mod_lt (w.tape w.drawn (.appendCap (n+m) cap e)) (show 0<2^63-(n+m) by omega);omega
 generalize grownCap w (n+m) cap e=gc at hrun q1 q2;have hex:(execOp ρ o).run P w=.ok (.value (.slice (some ⟨w.heap.size,0,none⟩) (n+m) gc)) (w.drew.alloc (.cells (old.toList.toArray++Builtin.zeroCells z0.cells m++Builtin.zeroCells z0.cells (gc-(n+m))) e)):=by simp[execOp,ho,resolve,hcl,invoke,builtin,hargs,hat,h1,h2,hrun]
 rw[hex];have⟨f1,f2,f3⟩:=Hm sto1 (old.toList.toArray++Builtin.zeroCells z0.cells m++Builtin.zeroCells z0.cells (gc-(n+m))) e (l:=l.take (n*ie.size)++List.replicate ((gc-n)*ie.size) .any) (by
  rw[Array.append_assoc,Fbn];refine((show Reads w _ (l.take (n*ie.size)) old.toList.toArray.toList from hold1).append ⟨?_,λi x y hx hy=>?_⟩).keep (gd.keeps _)
  ·rw[Faz,Fcp,Array.size_append];simp only[Builtin.zeroCells,Array.size_map,Array.size_range,hz];rw[<-Fb8]
   congr 1
   omega
  ·rw[Fby]at hx;split at hx
   ·cases hx;exact .any _
   ·cases hx)
 exact⟨_,_,_,h _ gc f1 q1 q2,.s _,f2,(gd.chg M).trans f3⟩
end
end Go.V
namespace Go.Proofs
open Go Go.V
def leQ:List (List AV)->List (List AV)->Prop
 |[],[]=>True
 |x::xs,y::ys=>leL x y/\leQ xs ys
 |_,_=>False
theorem ri:∀{xs ys:List (List AV)},leQ xs ys->xs.length=ys.length/\∀(i:Nat) (y:List AV),ys[i]?=some y->∃x,xs[i]?=some x/\leL x y
 |[],[],_=>⟨rfl,λi y h=>ω⟩
 |x::xs,y::ys,h=>by
  have⟨h1,h2⟩:=ri h.2;refine⟨by simp[h1],λi z hz=>?_⟩;cases i with
  |zero=>cases hz;exact⟨x,rfl,h.1⟩
  |succ i=>exact h2 i z hz
def zgt:∀{xs ys:List (List AV)} {x y:List AV},leQ xs ys->leL x y->leQ (xs++[x]) (ys++[y])
 |[],[],_,_,_,h=>⟨h,Tv⟩
 |_::_,_::_,_,_,h,h'=>⟨h.1,zgt h.2 h'⟩
def co{k:Nat}{xs ys:List (List AV)}(h:leQ xs ys):AV.le (.lst k xs none) (.lst k ys none):=by
 have⟨h1,h2⟩:=ri h;have at1:∀(i:Nat) (row:List AV) (j:Nat) (y:AV),ys[i]?=some row->row[j]?=some y->∃r x,xs[i]?=some r/\r[j]?=some x/\AV.le x y:=by
  intro i row j y hi hj;have⟨r,hr,hl⟩:=h2 i row hi;have⟨l1,l2⟩:=R6 hl;have hlt:j<r.length:=by rw[l1];exact(Fax.1 hj).1
  exact⟨r,r[j],hr,by simp[hlt],l2 j _ _ (by simp[hlt]) hj⟩
 intro w T v h;cases h with
 |nil _ a=>
  cases ys with
  |nil=>exact .nil k a
  |cons y ys=>cases h1
 |lst _ _ b off cap _ c hcap hkk htok hc h1' hx=>
  rw[h1]at hcap⊢;refine .lst ys none b off cap k c hcap ?_ (λ_ h=>ω) (λi row j y hi hj=>?_) (λi row j y hi hj=>?_) (λi row j y hi hj=>?_)
  ·intro i row hi;have⟨r,hr,hl⟩:=h2 i row hi;rw[<-(R6 hl).1];exact hkk i r hr
  ·have⟨r,x,hr,hx1,_⟩:=at1 i row j y hi hj;exact hc i r j x hr hx1
  ·have⟨r,x,hr,hx1,_⟩:=at1 i row j y hi hj;exact h1' i r j x hr hx1
  ·have⟨r,x,hr,hx1,hle⟩:=at1 i row j y hi hj;exact hle _ _ _ (hx i r j x hr hx1)
end Go.Proofs
