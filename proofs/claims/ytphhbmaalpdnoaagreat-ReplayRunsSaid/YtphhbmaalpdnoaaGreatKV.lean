/- Lemmas of thronglaw29; no conditions. -/
import Derived.Test.YtphhbmaalpdnoaaGreatKT
set_option linter.unusedSimpArgs false
set_option linter.unusedVariables false
set_option linter.defProp false
open List renaming length→Γ
open Option renaming some→Δ,none→Θ
namespace Go.V
def zkl{w:Wld}{u u':Unt}(h1:u'.id=u.id)(h2:u'.kind=u.kind)(h3:u'.pos=u.pos){v:Vc}:∀n k,qo w u' v n k=qo w u v n k:=by
 intro n;induction n with
 |zero=>intro k;rfl
 |succ n ih=>
  intro k;unfold qo;rw[h1,h2,h3,ih]
section
variable {w:Wld} {u:Unt}
theorem zg2{id k:Int}{q:Vc}(h:u.id=id):qi (yj w u) id k q↔qi w id k q:=by
 unfold qi;refine and_congr Iff.rfl ?_;constructor
 .intro d x c f a;refine d x ?_ f a;show x∈w.U.map _;exact Fag.2 ⟨x,c,if_neg (by rw[h];exact a)⟩
 .intro d x c f a;obtain⟨y,g,e⟩:=Fag.1 (show x∈w.U.map _ from c);by_cases b:y.id=u.id
  .rw[if_pos b]at e;subst e;exact absurd h a
  .rw[if_neg b]at e;subst e;exact d y g f a
theorem fq{u':Unt}(h:u'.id=u.id){v:Vc}:∀n k,qo (yj w u') u v n k=qo w u v n k:=by
 intro n;induction n with
 |zero=>intro k;rfl
 |succ n ih=>
  intro k;unfold qo;rw[ih];by_cases h0:vn v k=(0,0)
  .rw[if_pos h0,if_pos h0]
  .rw[if_neg h0,if_neg h0];by_cases hc:qi w u.id u.kind (xp u.pos (vn v k))
   .rw[if_pos hc,if_pos ((zg2 h).2 hc)]
   .rw[if_neg hc,if_neg (λhh=>hc ((zg2 h).1 hh))]
def zkg{d:Vc}:(qo w u (qy d) 5 0=Θ->Bj (yj w u) u d=5/\xj (yj w u) u d=yj w u)∧
  ∀k p,qo w u (qy d) 5 0=Δ (k,p)->Bj (yj w u) u d=k/\k<5/\xj (yj w u) u d=yj w {u with pos:=p}:=by
 refine⟨λh=>?_,λk p h=>?_⟩
 .exact Vf (by rw[fq rfl];exact h)
 .have:=ft (w:=yj w u) (u:=u) (v:=d) (k:=k) (p:=p) (by rw[fq rfl];exact h);refine⟨this.1,by have:=(ti 5 0 h).2;omega,?_⟩;rw[this.2,Wc w ξ]
def zz1{d:Vc}(a:Cc u.pos (ye w.G u.next.toNat) (xa u.kind)=d):
  (qo w u (qy d) 5 0=Θ->Ay w u=if u.stuck+1=8 then yj w (j7 4 u)else yj w {u with stuck:=u.stuck+1,next:=-1})∧
  ∀k p,qo w u (qy d) 5 0=Δ (k,p)->Ay w u=yj w {u with pos:=p,stuck:=0}:=by
 have b:∀n k,qo (yj w {u with stuck:=0}) {u with stuck:=0} (qy d) n k=qo w u (qy d) n k:=λn k=>by rw[fq rfl];exact zkl (u:=u) (u':={u with stuck:=0}) rfl rfl rfl n k
 refine⟨λh=>?_,λk p h=>?_⟩
 .have h1:=Vf (w:=yj w {u with stuck:=0}) (u:={u with stuck:=0}) (v:=d) (by rw[b];exact h);unfold Ay;rw[a,h1.1,if_neg ψ]
 .have h1:=ft (w:=yj w {u with stuck:=0}) (u:={u with stuck:=0}) (v:=d) (k:=k) (p:=p) (by rw[b];exact h);have h2:=(ti 5 0 h).2;unfold Ay;rw[a,h1.1,if_pos Z,h1.2,Wc w ξ]
end
section
variable {P:Program} {c:Cfg} {w:World} {st:Store} {Oth M:BB}
def yqm{T:BB}{b f n cap k:Nat}{l:List AV}(h:CellsRel w T l b)(B:f+n*k<=Γ l):
    ∃a:Array Value,Reads w T ((l.drop f).take (n*k)) a.toList/\a.size=n*k/\∀d,d.heap=w.heap->(Builtin.firstCells k n (.slice (Δ ⟨b,f,Θ⟩) n cap)).run P d=.ok a d:=by
  obtain⟨c,e,E,z,D,C,v⟩:=h;have u:f+n*k<=c.size:=Z;refine⟨((List.range' 0 (n*k)).map λi=>c.getD (f+i) undef).toArray,?_,φ,λd t=>?_⟩
  . refine⟨χ,λi x y g j=>?_⟩
    have o:i<n*k:=by have:=(Fa1.1 g).1;simp at this;omega
    rw[Fb2 o,Fct]at g;simp[o]at j;subst j;refine v (f+i) x _ g ?_;rw[Fby Z];simp[show f+i<c.size by omega]
  . have:=Lo (P:=P) ⟨b,f,Θ⟩ d (λi=>c.getD (f+i) undef) (n*k) 0 #[] (λp _ A=>by
      rw[wu,bg t];simp only[World.cell?,z];have:f+p<c.size:=Z;simp[this])
    simp only[Builtin.firstCells,loadCells];simpa using this
def yul{e:TypeId}{ie:TI}(T:c.I e=Δ ie){b f n d:Nat}{l:List AV}{x:AV}{rows:List (List AV)}(ho:st.obj b=Δ (.cells l))(z:f+d*ie.size<=Γ l)(hn:n<=d)
    (G:vw ie.size (.av x)=Δ rows) (C:room (n+Γ rows) ie.bytes) {K:Ja}
    (h1:n+Γ rows<=d->K (.s (.slice (Δ ⟨b,f,Θ⟩) (n+Γ rows) d)) (st.sO b (.cells (zu l (f+n*ie.size) rows.flatten))))
    (h2:d<n+Γ rows->∀b' g,Fresh st b'->n+Γ rows<=g->g<=9223372036854775807->K (.s (.slice (Δ ⟨b',0,Θ⟩) (n+Γ rows) g)) (st.sO b' (.cells ((l.drop f).take (n*ie.size)++rows.flatten++List.replicate ((g-(n+Γ rows))*ie.size) .any)))):
    AppX P c st e (.s (.slice (Δ ⟨b,f,Θ⟩) n d)) x K:=by
  refine⟨⟨ie,T⟩,λie' v Oth M w sv xv j ty V t sto hs X υ τ hu ν h0 h1'=>?_⟩;rw[T]at v;cases v;have hs:=VRel.eq_s hs;subst hs;have A:AppArgs P c j V t e ie (Δ ⟨b,f,Θ⟩) n d xv:=⟨υ,τ,hu,ν,h0,h1'⟩
  obtain⟨S,hl2,B,u,L,Q,U⟩:=I8 (P:=P) (β:=λ_=>0) (k:=ie.size) (x:=.av x) X G;have π:f+n*ie.size<=Γ l:=Fb7 (Nat.add_le_add_left (Fa3 _ hn) f) z;by_cases H:n+Γ rows<=d
  . obtain⟨⟨cs,e0,fr,ς,ι,R,hrel⟩,hM⟩:=sto.obj b _ ho
    have hfit:f+n*ie.size+Γ B.toList<=cs.size:=by rw[Fco,Q,Nat.add_assoc,<-Fch,<-R];exact Fb7 (Nat.add_le_add_left (Fa3 _ H) f) z
    obtain⟨w',η,ε⟩:=Kb (P:=P) w b (f+n*ie.size) B.toList 0 w cs e0 fr ς (.inl ι) hfit L;have hrun:=K4 (w':=w') ty A S (U w rfl) H (λa ha=>by cases ha;rw[wu];exact η) (λh=>ω);obtain⟨k1,k2⟩:=Cp sto ho u ε;exact⟨_,_,hrun,_,_,M,h1 H,.s _,k1,k2⟩
  . have H:d<n+Γ rows:=Z
    obtain⟨W,E,ο,D⟩:=yqm (P:=P) (cap:=d) (sto.obj b _ ho).1 π;obtain⟨o,p,g1,g0,g2,g3⟩:=K5 ty A S (U w.drew rfl) (D w.drew rfl) H C;have gd:Grow w w.drew:=Grow.drew w;have sto1:=sto.grow gd;obtain⟨f1,f2,f3⟩:=Hl sto1 (W++B++p) e (l:=(l.drop f).take (n*ie.size)++rows.flatten++List.replicate p.size .any) (by
      rw[Fbc,Fbc];refine((E.append u).append ⟨φ,λi x y G hy=>?_⟩).keep (gd.keeps _);rw[Fbv]at G;split at G
      . cases G;exact .any _
      . cases G)
    have e1:w.drew.heap.size=w.heap.size:=rfl;rw[g2]at f2;exact⟨_,_,g3,_,_,_,h2 H _ o f1 g1 g0,.s _,f2,(gd.chg M).trans f3⟩
end
end Go.V
namespace Go.V
section
variable {g:Gnd} {ok:Nat->Bool} {c:Int} {goal:Nat} {d:Nat->Int} {W:Nat->Bool}
def zjk{t:Nat}(h:SP (jo g ok c) goal d W (λa _ _=>a=t)):SP (jo g ok c) goal d W (C9 g ok c t 0):=
 gm h λa u k ha hn hE=>ψ4
def zjl{t:Nat}(h:SP (jo g ok c) goal d W (C9 g ok c t 8)):SP (jo g ok c) goal d W Fq:=
 gm h λa u k b e f=>by obtain⟨_,w,j,i,_⟩:=b;omega
def rr{t i:Nat}(h:SP (jo g ok c) goal d W (C9 g ok c t i))(n:∀u:Nat,yi g t i=u->0<qk g ok c t i->0<=d u/\d u<=d t+qk g ok c t i):SP (jo g ok c) goal d W (C9 g ok c t (i+1)):=
 gm h λa u k e b o=>by
  obtain⟨rfl,w,p,j,f,rfl⟩:=e;by_cases l:w=i
  .grind[Oo]
  .exact absurd ⟨rfl,w,Z,j,f,rfl⟩ b
def ut{a:Nat->Nat->Int->Prop}(h:SP (jo g ok c) goal d W a)(b:ok goal=true){u:Nat}(f:0<=d u):ok u=true:=by
 by_cases e:u=goal
 .rw[e];exact b
 .obtain⟨t,k,_,i,_⟩:=h.pre u e f;obtain⟨_,_,_,_,_,j,_⟩:=i;exact j
end
def QF(S:Store)(h e:Nat)(v:AV)(q:List Nat):Prop:=
 ∃b f a l,v=.s (.slice (Δ ⟨b,f,Θ⟩) (Γ q) a)/\S.obj b=Δ (.cells l)/\f+a<=Γ l/\Γ q<=a/\a<=9223372036854775807/\(l.drop f).take (Γ q)=q.map (λt=>int (t:Nat))/\b≠h/\b≠e
def QF.set1{S:Store}{e j:Nat}{v:AV}{q:List Nat}(h:QF S e j v q)(x:AObj):QF (S.sO e x) e j v q:=by obtain⟨b,f,a,l,w,u,t,p,o,n,i,k⟩:=h;exact⟨b,f,a,l,w,by rw[zi i];exact u,t,p,o,n,i,k⟩
def QF.set2{S:Store}{j e:Nat}{v:AV}{q:List Nat}(h:QF S j e v q)(x:AObj):QF (S.sO e x) j e v q:=by obtain⟨b,f,a,l,w,u,t,p,o,n,k,i⟩:=h;exact⟨b,f,a,l,w,by rw[zi i];exact u,t,p,o,n,k,i⟩
def yj5{l:List AV}{f t:Nat}{q:List Nat}(h:(l.drop f).take (t::q).length=(t::q).map (λt=>int (t:Nat))):(l.drop (f+0*1)).head?=Δ (int (t:Nat)):=by
 rw[Nat.zero_mul,Nat.add_zero];cases a:l.drop f with
 |nil=>rw[a]at h;simp at h
 |cons x r=>
  grind
def yj3{l:List AV}{f t:Nat}{q:List Nat}(h:(l.drop f).take (t::q).length=(t::q).map (λt=>int (t:Nat))):(l.drop (f+1)).take (Γ q)=q.map (λt=>int (t:Nat)):=by
 rw[<-Fdb];cases a:l.drop f with
 |nil=>rw[a]at h;simp at h
 |cons x r=>
  grind
theorem yj4{l:List AV}{f n:Nat}{x:AV}{r:List AV}(h:(l.drop f).take n=r)(b:f+n+1<=Γ l):((zu l (f+n) [x]).drop f).take (n+1)=r++[x]:=by have e:(l.take (f+n)).length=f+n:=θd;unfold zu;rw[Faq,List.drop_append_of_le_length Z,List.drop_take,Nat.add_sub_cancel_left,List.take_append,Fbz δ];rw[h];have a:Γ r=n:=δ;simp_all
theorem yaa{l xs:List AV}{o:Nat}(h:o+Γ xs<=Γ l):(zu l o xs).length=Γ l:=by unfold zu;simp;omega
end Go.V
namespace Go.V
def yj6{P:Program}{c:Cfg}{e:TypeId}{ie:TI}(u:c.I e=Δ ie)(o:ie.size=1)(A:ie.bytes<=1000){S:Store}{n k:Nat}{v:AV}{q:List Nat}(hq:QF S n k v q)(R:Γ q<=1000000){G E:AObj}(i:S.obj n=Δ G)(h:S.obj k=Δ E)(t:Nat){K:Ja}
  (U:∀H p,QF p n k H (q++[t])->p.obj n=Δ G->p.obj k=Δ E->K H p):appendK P c S e (.av v) (.av (.lst 1 [[int (t:Nat)]] Θ)) K:=by
 obtain⟨b,f,C,l,rfl,ho,h3,h4,h5,B,X,V⟩:=hq;have a:(q++[t]).length=Γ q+1:=φ;have Q:(q++[t]).map (λt=>int (t:Nat))=q.map (λt=>int (t:Nat))++[int (t:Nat)]:=φ;refine⟨.inr ⟨_,_,rfl,rfl,?_⟩⟩;refine yul u (l:=l) (rows:=[[int (t:Nat)]]) ho (by rw[o];omega) h4 ?_ ?_ (λz=>?_) (λz D j T y w=>?_)
 .rw[o];rfl
 .have:(Γ q+1)*ie.bytes<=1000001*1000:=Fc5 Z A;exact⟨δ,δ⟩
 .simp only[Fao]at z;refine U _ _ ⟨b,f,C,zu l (f+Γ q) [int (t:Nat)],by rw[a];rfl,?_,?_,Z,h5,?_,X,V⟩ ?_ ?_
  .rw[zd,o,Fem];rfl
  .grind[yaa]
  .rw[a,yj4 B Z,Q]
  .rw[zi (Ne.symm X)];exact i
  .rw[zi (Ne.symm V)];exact h
 .have M:D≠n:=λe=>absurd T.1 (by rw[e,i];simp);have L:D≠k:=λe=>absurd T.1 (by rw[e,h];simp);simp only[Fao]at z y;have ε:((l.drop f).take (Γ q)).length=Γ q:=by rw[B];simp
  refine U _ _ ⟨D,0,j,_,by rw[a];rfl,zd _ _ _,?_,Z,w,?_,M,L⟩ ?_ ?_
  .grind
  .rw[a,Q,Fcr,o,Fem,B];grind
  .rw[zi (Ne.symm M)];exact i
  .rw[zi (Ne.symm L)];exact h
end Go.V
namespace Go.V
def gn{E:Nat->Nat->Int->Prop}{goal:Nat}{d:Nat->Int}{W b:Nat->Bool}{a:Nat->Nat->Int->Prop}(h:SP E goal d W a)(l:∀u,W u=true->b u=true)(f:∀u,b u=true->0<=d u):SP E goal d b a:=
 ⟨h.lab,h.gl,h.pre,λt u c e k j i=>h.rel t u c e δ j i,f⟩
def inQ(q:List Nat)(u:Nat):Bool:=decide (u∈q)
theorem inQ_iff{q:List Nat}{u:Nat}:inQ q u=true↔u∈q:=decide_eq_true_iff
end Go.V
