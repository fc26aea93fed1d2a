/- Ground of laws of thronglaw25: contracts and plain lemmas; no condition beyond the row's own. -/
import Derived.Test.YthjfdaifoocijaaGreatKW
set_option linter.unusedSimpArgs false
set_option linter.unusedVariables false
set_option linter.defProp false
namespace Go.V
def zgv{w:Wld}{u u':Unt}(h1:u'.id=u.id)(h2:u'.kind=u.kind)(h3:u'.pos=u.pos){v:Vc}:∀n k,qk w u' v n k=qk w u v n k:=by
 intro n;induction n with
 |zero=>intro k;rfl
 |succ n ih=>
  intro k;unfold qk;rw[h1,h2,h3,ih]
section
variable {w:Wld} {u:Unt}
theorem zdh{id k:Int}{q:Vc}(h:u.id=id):qh (yk w u) id k q↔qh w id k q:=by
 unfold qh;refine and_congr Iff.rfl ?_;constructor
 ·intro hh x hx h0 hne;refine hh x ?_ h0 hne;show x∈w.U.map _;exact Fag.2 ⟨x,hx,if_neg (by rw[h];exact hne)⟩
 ·intro hh x hx h0 hne;obtain⟨y,hy,e⟩:=Fag.1 (show x∈w.U.map _ from hx);by_cases hyu:y.id=u.id
  ·rw[if_pos hyu]at e;subst e;exact absurd h hne
  ·rw[if_neg hyu]at e;subst e;exact hh y hy h0 hne
theorem W6{u':Unt}(h:u'.id=u.id){v:Vc}:∀n k,qk (yk w u') u v n k=qk w u v n k:=by
 intro n;induction n with
 |zero=>intro k;rfl
 |succ n ih=>
  intro k;unfold qk;rw[ih];by_cases h0:vd v k=(0,0)
  ·rw[if_pos h0,if_pos h0]
  ·rw[if_neg h0,if_neg h0];by_cases hc:qh w u.id u.kind (xn u.pos (vd v k))
   ·rw[if_pos hc,if_pos ((zdh h).2 hc)]
   ·rw[if_neg hc,if_neg (λhh=>hc ((zdh h).1 hh))]
def zgq{d:Vc}:(qk w u (qu d) 5 0=none->Am (yk w u) u d=5/\xk (yk w u) u d=yk w u)∧
  ∀k p,qk w u (qu d) 5 0=some (k,p)->Am (yk w u) u d=k/\k<5/\xk (yk w u) u d=yk w {u with pos:=p}:=by
 refine⟨λh=>?_,λk p h=>?_⟩
 ·exact Rb (by rw[W6 rfl];exact h)
 ·have:=W7 (w:=yk w u) (u:=u) (v:=d) (k:=k) (p:=p) (by rw[W6 rfl];exact h);refine⟨this.1,by have:=(nt 5 0 h).2;omega,?_⟩;rw[this.2,R5 w ξ]
def zt9{d:Vc}(hd:Bi u.pos (yf w.G u.next.toNat) (xa u.kind)=d):
  (qk w u (qu d) 5 0=none->Ab w u=if u.stuck+1=8 then yk w (j4 4 u)else yk w {u with stuck:=u.stuck+1,next:=-1})∧
  ∀k p,qk w u (qu d) 5 0=some (k,p)->Ab w u=yk w {u with pos:=p,stuck:=0}:=by
 have e1:∀n k,qk (yk w {u with stuck:=0}) {u with stuck:=0} (qu d) n k=qk w u (qu d) n k:=λn k=>by rw[W6 rfl];exact zgv (u:=u) (u':={u with stuck:=0}) rfl rfl rfl n k
 refine⟨λh=>?_,λk p h=>?_⟩
 ·have h1:=Rb (w:=yk w {u with stuck:=0}) (u:={u with stuck:=0}) (v:=d) (by rw[e1];exact h);unfold Ab;rw[hd,h1.1,if_neg ψ]
 ·have h1:=W7 (w:=yk w {u with stuck:=0}) (u:={u with stuck:=0}) (v:=d) (k:=k) (p:=p) (by rw[e1];exact h);have h2:=(nt 5 0 h).2;unfold Ab;rw[hd,h1.1,if_pos θ,h1.2,R5 w ξ]
end
section
variable {P:Program} {c:Cfg} {w:World} {st:Store} {Oth M:BB}
def yjm{T:BB}{b f n cap k:Nat}{l:List AV}(h:CellsRel w T l b)(hn:f+n*k<=l.length):
    ∃new:Array Value,Reads w T ((l.drop f).take (n*k)) new.toList/\new.size=n*k/\∀w',w'.heap=w.heap->(Builtin.firstCells k n (.slice (some ⟨b,f,none⟩) n cap)).run P w'=.ok new w':=by
  obtain⟨c,e,fr,h1,h2,h3,h4⟩:=h;have hsz:f+n*k<=c.size:=θ;refine⟨((List.range' 0 (n*k)).map λi=>c.getD (f+i) undef).toArray,?_,φ,λw' hw=>?_⟩
  · refine⟨χ,λi x y hx hy=>?_⟩
    have hi:i<n*k:=by have:=(Fax.1 hx).1;simp at this;omega
    rw[Fb1 hi,Fcq]at hx;simp[hi]at hy;subst hy;refine h4 (f+i) x _ hx ?_;rw[Fbe θ];simp[show f+i<c.size by omega]
  · have:=Kt (P:=P) ⟨b,f,none⟩ w' (λi=>c.getD (f+i) undef) (n*k) 0 #[] (λp _ hp=>by
      rw[vw,S9 hw];simp only[World.cell?,h1];have:f+p<c.size:=θ;simp[this])
    simp only[Builtin.firstCells,loadCells];simpa using this
def yno{e:TypeId}{ie:TI}(hie:c.I e=some ie){b f n cap:Nat}{l:List AV}{x:AV}{rows:List (List AV)}(ho:st.obj b=some (.cells l))(hcap:f+cap*ie.size<=l.length)(hn:n<=cap)
    (hx:vz ie.size (.av x)=some rows) (hroom:room (n+rows.length) ie.bytes) {K:Ja}
    (h1:n+rows.length<=cap->K (.s (.slice (some ⟨b,f,none⟩) (n+rows.length) cap)) (st.sO b (.cells (zv l (f+n*ie.size) rows.flatten))))
    (h2:cap<n+rows.length->∀b' cap',Fresh st b'->n+rows.length<=cap'->cap'<=9223372036854775807->K (.s (.slice (some ⟨b',0,none⟩) (n+rows.length) cap')) (st.sO b' (.cells ((l.drop f).take (n*ie.size)++rows.flatten++List.replicate ((cap'-(n+rows.length))*ie.size) .any)))):
    AppX P c st e (.s (.slice (some ⟨b,f,none⟩) n cap)) x K:=by
  refine⟨⟨ie,hie⟩,λie' hie' Oth M w sv xv argTypes ty args t sto hs hxv hat ht1 hu hti h0 h1'=>?_⟩;rw[hie]at hie';cases hie';have hs:=VRel.eq_s hs;subst hs;have A:AppArgs P c argTypes args t e ie (some ⟨b,f,none⟩) n cap xv:=⟨hat,ht1,hu,hti,h0,h1'⟩
  obtain⟨hl1,hl2,new,hnew,hone,hnsz,hfc⟩:=H6 (P:=P) (β:=λ_=>0) (k:=ie.size) (x:=.av x) hxv hx;have hnn:f+n*ie.size<=l.length:=Fcx (Nat.add_le_add_left (Fa1 _ hn) f) hcap;by_cases hc:n+rows.length<=cap
  · obtain⟨⟨cs,e0,fr,hb0,huf,hlen,hrel⟩,hM⟩:=sto.obj b _ ho
    have hfit:f+n*ie.size+new.toList.length<=cs.size:=by rw[Fci,hnsz,Nat.add_assoc,<-Fch,<-hlen];exact Fcx (Nat.add_le_add_left (Fa1 _ hc) f) hcap
    obtain⟨w',hw1,hw2⟩:=H7 (P:=P) w b (f+n*ie.size) new.toList 0 w cs e0 fr hb0 (.inl huf) hfit hone;have hrun:=Kb (w':=w') ty A hl1 (hfc w rfl) hc (λa ha=>by cases ha;rw[vw];exact hw1) λh=>ω;obtain⟨k1,k2⟩:=Bu sto ho hnew hw2;exact⟨_,_,hrun,_,_,M,h1 hc,.s _,k1,k2⟩
  · have hc:cap<n+rows.length:=θ
    obtain⟨old,hold1,hold2,hold3⟩:=yjm (P:=P) (cap:=cap) (sto.obj b _ ho).1 hnn;obtain⟨newCap,rest,g1,g0,g2,g3⟩:=Kc ty A hl1 (hfc w.drew rfl) (hold3 w.drew rfl) hc hroom;have gd:Grow w w.drew:=Grow.drew w;have sto1:=sto.grow gd;obtain⟨f1,f2,f3⟩:=Gh sto1 (old++new++rest) e (l:=(l.drop f).take (n*ie.size)++rows.flatten++List.replicate rest.size .any) (by
      rw[Fbc,Fbc];refine((hold1.append hnew).append ⟨φ,λi x y hx hy=>?_⟩).keep (gd.keeps _);rw[Fbw]at hx;split at hx
      · cases hx;exact .any _
      · cases hx)
    have e1:w.drew.heap.size=w.heap.size:=rfl;rw[g2]at f2;exact⟨_,_,g3,_,_,_,h2 hc _ newCap f1 g1 g0,.s _,f2,(gd.chg M).trans f3⟩
end
end Go.V
namespace Go.V
section
variable {g:Gnd} {ok:Nat->Bool} {c:Int} {goal:Nat} {d:Nat->Int} {W:Nat->Bool}
def zft{t:Nat}(h:SP (jl g ok c) goal d W λa _ _=>a=t):SP (jl g ok c) goal d W (Cf g ok c t 0):=
 bv h λa u k ha hn hE=>ψ1
def zfu{t:Nat}(h:SP (jl g ok c) goal d W (Cf g ok c t 8)):SP (jl g ok c) goal d W Ds:=
 bv h λa u k ha hn hE=>by obtain⟨_,w,h1,h2,_⟩:=ha;omega
def l4{t i:Nat}(h:SP (jl g ok c) goal d W (Cf g ok c t i))(hp:∀u:Nat,yj g t i=u->0<qj g ok c t i->0<=d u/\d u<=d t+qj g ok c t i):SP (jl g ok c) goal d W (Cf g ok c t (i+1)):=
 bv h λa u k ha hn hE=>by
  obtain⟨rfl,w,h1,h2,h3,rfl⟩:=ha;by_cases hw:w=i
  ·grind[M5]
  ·exact absurd ⟨rfl,w,θ,h2,h3,rfl⟩ hn
def o5{O:Nat->Nat->Int->Prop}(h:SP (jl g ok c) goal d W O)(hgoal:ok goal=true){u:Nat}(hu:0<=d u):ok u=true:=by
 by_cases e:u=goal
 ·rw[e];exact hgoal
 ·obtain⟨t,k,_,hE,_⟩:=h.pre u e hu;obtain⟨_,_,_,_,_,h1,_⟩:=hE;exact h1
end
def QF(S:Store)(b1 b2:Nat)(v:AV)(q:List Nat):Prop:=
 ∃b f cap l,v=.s (.slice (some ⟨b,f,none⟩) q.length cap)/\S.obj b=some (.cells l)/\f+cap<=l.length/\q.length<=cap/\cap<=9223372036854775807/\(l.drop f).take q.length=q.map (λt=>int (t:Nat))/\b≠b1/\b≠b2
def QF.set1{S:Store}{b1 b2:Nat}{v:AV}{q:List Nat}(h:QF S b1 b2 v q)(x:AObj):QF (S.sO b1 x) b1 b2 v q:=by obtain⟨b,f,cap,l,h1,h2,h3,h4,h5,h6,h7,h8⟩:=h;exact⟨b,f,cap,l,h1,by rw[zj h7];exact h2,h3,h4,h5,h6,h7,h8⟩
def QF.set2{S:Store}{b1 b2:Nat}{v:AV}{q:List Nat}(h:QF S b1 b2 v q)(x:AObj):QF (S.sO b2 x) b1 b2 v q:=by obtain⟨b,f,cap,l,h1,h2,h3,h4,h5,h6,h7,h8⟩:=h;exact⟨b,f,cap,l,h1,by rw[zj h8];exact h2,h3,h4,h5,h6,h7,h8⟩
def ydp{l:List AV}{f t:Nat}{q:List Nat}(h:(l.drop f).take (t::q).length=(t::q).map λt=>int (t:Nat)):(l.drop (f+0*1)).head?=some (int (t:Nat)):=by
 rw[Nat.zero_mul,Nat.add_zero];cases hd:l.drop f with
 |nil=>rw[hd]at h;simp at h
 |cons x r=>
  grind
def ydn{l:List AV}{f t:Nat}{q:List Nat}(h:(l.drop f).take (t::q).length=(t::q).map λt=>int (t:Nat)):(l.drop (f+1)).take q.length=q.map (λt=>int (t:Nat)):=by
 rw[<-Fdk];cases hd:l.drop f with
 |nil=>rw[hd]at h;simp at h
 |cons x r=>
  grind
theorem ydo{l:List AV}{f n:Nat}{x:AV}{r:List AV}(h:(l.drop f).take n=r)(hn:f+n+1<=l.length):((zv l (f+n) [x]).drop f).take (n+1)=r++[x]:=by have hl:(l.take (f+n)).length=f+n:=θe;unfold zv;rw[Faw,List.drop_append_of_le_length θ,List.drop_take,Nat.add_sub_cancel_left,List.take_append,Fce δ];rw[h];have hr:r.length=n:=δ;simp_all
theorem zuk{l xs:List AV}{o:Nat}(h:o+xs.length<=l.length):(zv l o xs).length=l.length:=by unfold zv;simp;omega
end Go.V
namespace Go.V
def ydq{P:Program}{c:Cfg}{e:TypeId}{ie:TI}(hie:c.I e=some ie)(hs:ie.size=1)(hby:ie.bytes<=1000){S:Store}{b1 b2:Nat}{v:AV}{q:List Nat}(hq:QF S b1 b2 v q)(hlen:q.length<=1000000){x1 x2:AObj}(ho1:S.obj b1=some x1)(ho2:S.obj b2=some x2)(t:Nat){K:Ja}
  (hK:∀v' S',QF S' b1 b2 v' (q++[t])->S'.obj b1=some x1->S'.obj b2=some x2->K v' S'):appendK P c S e (.av v) (.av (.lst 1 [[int (t:Nat)]] none)) K:=by
 obtain⟨b,f,cap,l,rfl,ho,h3,h4,h5,h6,h7,h8⟩:=hq;have hl1:(q++[t]).length=q.length+1:=φ;have hm:(q++[t]).map (λt=>int (t:Nat))=q.map (λt=>int (t:Nat))++[int (t:Nat)]:=φ;refine⟨.inr ⟨_,_,rfl,rfl,yno hie (l:=l) (rows:=[[int (t:Nat)]]) ho (by rw[hs];omega) h4 ?_ ?_ (λhc=>?_) λhc b' cap' hf hc1 hc2=>?_⟩⟩
 ·rw[hs];rfl
 ·have:(q.length+1)*ie.bytes<=1000001*1000:=Fcw θ hby;exact⟨δ,δ⟩
 ·simp only[Fao]at hc;refine hK _ _ ⟨b,f,cap,zv l (f+q.length) [int (t:Nat)],by rw[hl1];rfl,?_,?_,θ,h5,?_,h7,h8⟩ ?_ ?_
  ·rw[zd,hs,Fej];rfl
  ·grind[zuk]
  ·rw[hl1,ydo h6 θ,hm]
  ·rw[zj (Ne.symm h7)];exact ho1
  ·rw[zj (Ne.symm h8)];exact ho2
 ·have n1:b'≠b1:=λe=>absurd hf.1 (by rw[e,ho1];simp);have n2:b'≠b2:=λe=>absurd hf.1 (by rw[e,ho2];simp);simp only[Fao]at hc hc1;have hlr:((l.drop f).take q.length).length=q.length:=by rw[h6];simp
  refine hK _ _ ⟨b',0,cap',_,by rw[hl1];rfl,zd _ _ _,?_,θ,hc2,?_,n1,n2⟩ ?_ ?_
  ·grind
  ·rw[hl1,hm,Fcb,hs,Fej,h6];grind
  ·rw[zj (Ne.symm n1)];exact ho1
  ·rw[zj (Ne.symm n2)];exact ho2
end Go.V
namespace Go.V
def bz{E:Nat->Nat->Int->Prop}{goal:Nat}{d:Nat->Int}{W W':Nat->Bool}{O:Nat->Nat->Int->Prop}(h:SP E goal d W O)(hW:∀u,W u=true->W' u=true)(hl:∀u,W' u=true->0<=d u):SP E goal d W' O:=
 ⟨h.lab,h.gl,h.pre,λt u c ht hw hE hO=>h.rel t u c ht δ hE hO,hl⟩
def inQ(q:List Nat)(u:Nat):Bool:=decide (u∈q)
theorem inQ_iff{q:List Nat}{u:Nat}:inQ q u=true↔u∈q:=decide_eq_true_iff
end Go.V
