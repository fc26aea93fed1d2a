/- Ground of laws of thronglaw24: contracts and plain lemmas; no condition beyond the row's own. -/
import Derived.Test.YtbemejeejgpkaaaGreatKQ
set_option linter.unusedSimpArgs false
set_option linter.unusedVariables false
namespace Go.V
theorem zd2{w:Wld}{u u':Unt}(h1:u'.id=u.id)(h2:u'.kind=u.kind)(h3:u'.pos=u.pos){v:Vc}:∀n k,qb w u' v n k=qb w u v n k:=by
 intro n
 induction n with
 |zero=>intro k;rfl
 |succ n ih=>
  intro k
  unfold qb
  rw[h1,h2,h3,ih]
section
variable {w:Wld} {u:Unt}
theorem zap{id k:Int}{q:Vc}(h:u.id=id):qa (ye w u) id k q↔qa w id k q:=by
 unfold qa
 refine and_congr Iff.rfl ?_
 constructor
 ·intro hh x hx h0 hne
  refine hh x ?_ h0 hne
  show x∈w.U.map _
  exact Fae.2 ⟨x,hx,if_neg (by rw[h];exact hne)⟩
 ·intro hh x hx h0 hne
  obtain⟨y,hy,e⟩:=Fae.1 (show x∈w.U.map _ from hx)
  by_cases hyu:y.id=u.id
  ·rw[if_pos hyu]at e
   subst e
   exact absurd h hne
  ·rw[if_neg hyu]at e
   subst e
   exact hh y hy h0 hne
theorem S8{u':Unt}(h:u'.id=u.id){v:Vc}:∀n k,qb (ye w u') u v n k=qb w u v n k:=by
 intro n
 induction n with
 |zero=>intro k;rfl
 |succ n ih=>
  intro k
  unfold qb
  rw[ih]
  by_cases h0:jy v k=(0,0)
  ·rw[if_pos h0,if_pos h0]
  ·rw[if_neg h0,if_neg h0]
   by_cases hc:qa w u.id u.kind (q9 u.pos (jy v k))
   ·rw[if_pos hc,if_pos ((zap h).2 hc)]
   ·rw[if_neg hc,if_neg (λhh=>hc ((zap h).1 hh))]
theorem zdx{d:Vc}:(qb w u (qm d) 5 0=none->ww (ye w u) u d=5/\xg (ye w u) u d=ye w u)∧
  ∀k p,qb w u (qm d) 5 0=some (k,p)->ww (ye w u) u d=k/\k<5/\xg (ye w u) u d=ye w {u with pos:=p}:=by
 refine⟨λh=>?_,λk p h=>?_⟩
 ·exact Om (by rw[S8 rfl];exact h)
 ·have:=S9 (w:=ye w u) (u:=u) (v:=d) (k:=k) (p:=p) (by rw[S8 rfl];exact h)
  refine⟨this.1,by have:=(gr 5 0 h).2;omega,?_⟩
  rw[this.2,Pf w (by rfl)]
theorem znw{d:Vc}(hd:Am u.pos (ya w.G u.next.toNat) (qs u.kind)=d):
  (qb w u (qm d) 5 0=none->wh w u=if u.stuck+1=8 then ye w (xq 4 u)else ye w {u with stuck:=u.stuck+1,next:=-1})∧
  ∀k p,qb w u (qm d) 5 0=some (k,p)->wh w u=ye w {u with pos:=p,stuck:=0}:=by
 have e1:∀n k,qb (ye w {u with stuck:=0}) {u with stuck:=0} (qm d) n k=qb w u (qm d) n k:=λn k=>by
  rw[S8 rfl]
  exact zd2 (u:=u) (u':={u with stuck:=0}) rfl rfl rfl n k
 refine⟨λh=>?_,λk p h=>?_⟩
 ·have h1:=Om (w:=ye w {u with stuck:=0}) (u:={u with stuck:=0}) (v:=d) (by rw[e1];exact h)
  unfold wh
  rw[hd,h1.1,if_neg (by decide)]
 ·have h1:=S9 (w:=ye w {u with stuck:=0}) (u:={u with stuck:=0}) (v:=d) (k:=k) (p:=p) (by rw[e1];exact h)
  have h2:=(gr 5 0 h).2
  unfold wh
  rw[hd,h1.1,if_pos (by omega),h1.2,Pf w (by rfl)]
end
section
variable {P:Program} {c:Cfg} {w:World} {st:Store} {Oth M:Nat->Nat->Prop}
theorem ybv{T:Nat->Nat->Prop}{b f n cap k:Nat}{l:List AV}(h:CellsRel w T l b)(hn:f+n*k<=l.length):
    ∃new:Array Value,Reads w T ((l.drop f).take (n*k)) new.toList/\new.size=n*k/\∀w',w'.heap=w.heap->(Builtin.firstCells k n (.slice (some ⟨b,f,none⟩) n cap)).run P w'=.ok new w':=by
  obtain⟨c,e,fr,h1,h2,h3,h4⟩:=h
  have hsz:f+n*k<=c.size:=by omega
  refine⟨((List.range' 0 (n*k)).map λi=>c.getD (f+i) undef).toArray,?_,by simp,λw' hw=>?_⟩
  · refine⟨by simp;omega,λi x y hx hy=>?_⟩
    have hi:i<n*k:=by
      have:=(Fai.1 hx).1
      simp at this;omega
    rw[Fb7 hi,Fcg]at hx
    simp[hi]at hy
    subst hy
    refine h4 (f+i) x _ hx ?_
    rw[Fa8 (by omega)]
    simp[show f+i<c.size by omega]
  · have:=Ic (P:=P) ⟨b,f,none⟩ w' (λi=>c.getD (f+i) undef) (n*k) 0 #[] (λp _ hp=>by
      rw[wd,P8 hw]
      simp only[World.cell?,h1]
      have:f+p<c.size:=by omega
      simp[this])
    simp only[Builtin.firstCells,loadCells]
    simpa using this
theorem yfc{e:TypeId}{ie:TI}(hie:c.I e=some ie){b f n cap:Nat}{l:List AV}{x:AV}{rows:List (List AV)}(ho:st.obj b=some (.cells l))(hcap:f+cap*ie.size<=l.length)(hn:n<=cap)
    (hx:k9 ie.size (.av x)=some rows) (hroom:room (n+rows.length) ie.bytes) {K:Ja}
    (h1:n+rows.length<=cap->K (.s (.slice (some ⟨b,f,none⟩) (n+rows.length) cap)) (st.sO b (.cells (zu l (f+n*ie.size) rows.flatten))))
    (h2:cap<n+rows.length->∀b' cap',Fresh st b'->n+rows.length<=cap'->cap'<=9223372036854775807->K (.s (.slice (some ⟨b',0,none⟩) (n+rows.length) cap')) (st.sO b' (.cells ((l.drop f).take (n*ie.size)++rows.flatten++List.replicate ((cap'-(n+rows.length))*ie.size) .any)))):
    AppX P c st e (.s (.slice (some ⟨b,f,none⟩) n cap)) x K:=by
  refine⟨⟨ie,hie⟩,λie' hie' Oth M w sv xv argTypes ty args t sto hs hxv hat ht1 hu hti h0 h1'=>?_⟩
  rw[hie]at hie'
  cases hie'
  have hs:=VRel.eq_s hs
  subst hs
  have A:AppArgs P c argTypes args t e ie (some ⟨b,f,none⟩) n cap xv:=⟨hat,ht1,hu,hti,h0,h1'⟩
  obtain⟨hl1,hl2,new,hnew,hone,hnsz,hfc⟩:=G4 (P:=P) (β:=λ_=>0) (k:=ie.size) (x:=.av x) hxv hx
  have hnn:f+n*ie.size<=l.length:=Fde (Nat.add_le_add_left (Fa5 _ hn) f) hcap
  by_cases hc:n+rows.length<=cap
  · obtain⟨⟨cs,e0,fr,hb0,huf,hlen,hrel⟩,hM⟩:=sto.obj b _ ho
    have hfit:f+n*ie.size+new.toList.length<=cs.size:=by
      rw[Fb4,hnsz,Nat.add_assoc,<-Fb0,<-hlen]
      exact Fde (Nat.add_le_add_left (Fa5 _ hc) f) hcap
    obtain⟨w',hw1,hw2⟩:=Kx (P:=P) w b (f+n*ie.size) new.toList 0 w cs e0 fr hb0 (.inl huf) hfit hone
    have hrun:=I7 (w':=w') ty A hl1 (hfc w rfl) hc (λa ha=>by
      cases ha
      rw[wd];exact hw1) (λh=>by cases h)
    obtain⟨k1,k2⟩:=Bu sto ho hnew hw2
    exact⟨_,_,hrun,_,_,M,h1 hc,.s _,k1,k2⟩
  · have hc:cap<n+rows.length:=by omega
    obtain⟨old,hold1,hold2,hold3⟩:=ybv (P:=P) (cap:=cap) (sto.obj b _ ho).1 hnn
    obtain⟨newCap,rest,g1,g0,g2,g3⟩:=I8 ty A hl1 (hfc w.drew rfl) (hold3 w.drew rfl) hc hroom
    have gd:Grow w w.drew:=Grow.drew w
    have sto1:=sto.grow gd
    obtain⟨f1,f2,f3⟩:=F9 sto1 (old++new++rest) e (l:=(l.drop f).take (n*ie.size)++rows.flatten++List.replicate rest.size .any) (by
      rw[Fbf,Fbf]
      refine((hold1.append hnew).append ⟨by simp,λi x y hx hy=>?_⟩).keep (gd.keeps _)
      rw[Fca]at hx
      split at hx
      · cases hx;exact .any _
      · cases hx)
    have e1:w.drew.heap.size=w.heap.size:=rfl
    rw[g2]at f2
    exact⟨_,_,g3,_,_,_,h2 hc _ newCap f1 g1 g0,.s _,f2,(gd.chg M).trans f3⟩
end
end Go.V
namespace Go.V
section
variable {g:Gnd} {ok:Nat->Bool} {c:Int} {goal:Nat} {d:Nat->Int} {W:Nat->Bool}
theorem zct{t:Nat}(h:SP (xm g ok c) goal d W (λa _ _=>a=t)):SP (xm g ok c) goal d W (Bc g ok c t 0):=
 Vo h λa u k ha hn hE=>by
  obtain⟨_,_,w,hw,h1,_,h2,_⟩:=hE
  subst ha
  exact absurd ⟨rfl,w,Fag _,hw,h1,h2⟩ hn
theorem zcu{t:Nat}(h:SP (xm g ok c) goal d W (Bc g ok c t 8)):SP (xm g ok c) goal d W Cu:=
 Vo h λa u k ha hn hE=>by
  obtain⟨_,w,h1,h2,_⟩:=ha
  omega
theorem ey{t i:Nat}(h:SP (xm g ok c) goal d W (Bc g ok c t i))(hp:∀u:Nat,yc g t i=u->0<yv g ok c t i->0<=d u/\d u<=d t+yv g ok c t i):SP (xm g ok c) goal d W (Bc g ok c t (i+1)):=
 Vo h λa u k ha hn hE=>by
  obtain⟨rfl,w,h1,h2,h3,rfl⟩:=ha
  by_cases hw:w=i
  ·subst hw
   exact hp u h3 (Lm _ _ _ hE)
  ·exact absurd ⟨rfl,w,by omega,h2,h3,rfl⟩ hn
theorem i8{O:Nat->Nat->Int->Prop}(h:SP (xm g ok c) goal d W O)(hgoal:ok goal=true){u:Nat}(hu:0<=d u):ok u=true:=by
 by_cases e:u=goal
 ·rw[e];exact hgoal
 ·obtain⟨t,k,_,hE,_⟩:=h.pre u e hu
  obtain⟨_,_,_,_,_,h1,_⟩:=hE
  exact h1
end
def QF(S:Store)(b1 b2:Nat)(v:AV)(q:List Nat):Prop:=
 ∃b f cap l,v=.s (.slice (some ⟨b,f,none⟩) q.length cap)/\S.obj b=some (.cells l)/\f+cap<=l.length/\q.length<=cap/\cap<=9223372036854775807/\(l.drop f).take q.length=q.map (λt=>int (t:Nat))/\b≠b1/\b≠b2
theorem QF.set1{S:Store}{b1 b2:Nat}{v:AV}{q:List Nat}(h:QF S b1 b2 v q)(x:AObj):QF (S.sO b1 x) b1 b2 v q:=by
 obtain⟨b,f,cap,l,h1,h2,h3,h4,h5,h6,h7,h8⟩:=h
 exact⟨b,f,cap,l,h1,by rw[zi h7];exact h2,h3,h4,h5,h6,h7,h8⟩
theorem QF.set2{S:Store}{b1 b2:Nat}{v:AV}{q:List Nat}(h:QF S b1 b2 v q)(x:AObj):QF (S.sO b2 x) b1 b2 v q:=by
 obtain⟨b,f,cap,l,h1,h2,h3,h4,h5,h6,h7,h8⟩:=h
 exact⟨b,f,cap,l,h1,by rw[zi h8];exact h2,h3,h4,h5,h6,h7,h8⟩
theorem zv0{l:List AV}{f t:Nat}{q:List Nat}(h:(l.drop f).take (t::q).length=(t::q).map (λt=>int (t:Nat))):(l.drop (f+0*1)).head?=some (int (t:Nat)):=by
 rw[Nat.zero_mul,Fey]
 cases hd:l.drop f with
 |nil=>rw[hd]at h;simp at h
 |cons x r=>
  rw[hd]at h
  simp only[Fba,Fer,Fb9,Fcm]at h
  rw[h.1]
  rfl
theorem zvy{l:List AV}{f t:Nat}{q:List Nat}(h:(l.drop f).take (t::q).length=(t::q).map (λt=>int (t:Nat))):(l.drop (f+1)).take q.length=q.map (λt=>int (t:Nat)):=by
 rw[<-Fdk]
 cases hd:l.drop f with
 |nil=>rw[hd]at h;simp at h
 |cons x r=>
  rw[hd]at h
  simp only[Fba,Fer,Fb9,Fcm]at h
  exact h.2
theorem zvz{l:List AV}{f n:Nat}{x:AV}{r:List AV}(h:(l.drop f).take n=r)(hn:f+n+1<=l.length):((zu l (f+n) [x]).drop f).take (n+1)=r++[x]:=by
 have hl:(l.take (f+n)).length=f+n:=by rw[Fao];omega
 unfold zu
 rw[Fa3,List.drop_append_of_le_length (by omega),List.drop_take,Fe8,List.take_append,Fbr (by rw[h];have:=congrArg List.length h;simp at this;omega)]
 rw[h]
 have hr:r.length=n:=by have:=congrArg List.length h;simp at this;omega
 rw[hr,Fe8]
 rfl
theorem zn4{l xs:List AV}{o:Nat}(h:o+xs.length<=l.length):(zu l o xs).length=l.length:=by
 unfold zu
 simp
 omega
end Go.V
namespace Go.V
theorem zv1{P:Program}{c:Cfg}{e:TypeId}{ie:TI}(hie:c.I e=some ie)(hs:ie.size=1)(hby:ie.bytes<=1000){S:Store}{b1 b2:Nat}{v:AV}{q:List Nat}(hq:QF S b1 b2 v q)(hlen:q.length<=1000000){x1 x2:AObj}(ho1:S.obj b1=some x1)(ho2:S.obj b2=some x2)(t:Nat){K:Ja}
  (hK:∀v' S',QF S' b1 b2 v' (q++[t])->S'.obj b1=some x1->S'.obj b2=some x2->K v' S'):appendK P c S e (.av v) (.av (.lst 1 [[int (t:Nat)]] none)) K:=by
 obtain⟨b,f,cap,l,rfl,ho,h3,h4,h5,h6,h7,h8⟩:=hq
 have hl1:(q++[t]).length=q.length+1:=by simp
 have hm:(q++[t]).map (λt=>int (t:Nat))=q.map (λt=>int (t:Nat))++[int (t:Nat)]:=by simp
 refine⟨.inr ⟨_,_,rfl,rfl,?_⟩⟩
 refine yfc hie (l:=l) (rows:=[[int (t:Nat)]]) ho (by rw[hs];omega) h4 ?_ ?_ (λhc=>?_) (λhc b' cap' hf hc1 hc2=>?_)
 ·rw[hs];rfl
 ·have:(q.length+1)*ie.bytes<=1000001*1000:=Fc7 (by omega) hby
  exact⟨by simp only[Fas]at*;omega,by simp only[Fas];omega⟩
 ·simp only[Fas]at hc
  refine hK _ _ ⟨b,f,cap,zu l (f+q.length) [int (t:Nat)],by rw[hl1];rfl,?_,?_,by omega,h5,?_,h7,h8⟩ ?_ ?_
  ·rw[zd,hs,Fdp]
   rfl
  ·rw[zn4 (by simp only[Fas];omega)]
   exact h3
  ·rw[hl1,zvz h6 (by omega),hm]
  ·rw[zi (Ne.symm h7)];exact ho1
  ·rw[zi (Ne.symm h8)];exact ho2
 ·have n1:b'≠b1:=λe=>absurd hf.1 (by rw[e,ho1];simp)
  have n2:b'≠b2:=λe=>absurd hf.1 (by rw[e,ho2];simp)
  simp only[Fas]at hc hc1
  have hlr:((l.drop f).take q.length).length=q.length:=by rw[h6];simp
  refine hK _ _ ⟨b',0,cap',_,by rw[hl1];rfl,zd _ _ _,?_,by omega,hc2,?_,n1,n2⟩ ?_ ?_
  ·simp only[hs,Fdp,Fad,hlr,Fbj,Fcr,List.flatten_nil,Fbv,Fas]
   omega
  ·rw[hl1,hm,Fcc,hs,Fdp,h6]
   rw[Fbl (by simp),Fbr (by simp)]
   rfl
  ·rw[zi (Ne.symm n1)];exact ho1
  ·rw[zi (Ne.symm n2)];exact ho2
end Go.V
namespace Go.V
theorem Vp{E:Nat->Nat->Int->Prop}{goal:Nat}{d:Nat->Int}{W W':Nat->Bool}{O:Nat->Nat->Int->Prop}(h:SP E goal d W O)(hW:∀u,W u=true->W' u=true)(hl:∀u,W' u=true->0<=d u):SP E goal d W' O:=
 ⟨h.lab,h.gl,h.pre,λt u c ht hw hE hO=>h.rel t u c ht (by
  cases e:W t with
  |false=>rfl
  |true=>rw[hW t e]at hw;cases hw) hE hO,hl⟩
def inQ(q:List Nat)(u:Nat):Bool:=decide (u∈q)
theorem inQ_iff{q:List Nat}{u:Nat}:inQ q u=true↔u∈q:=decide_eq_true_iff
end Go.V
