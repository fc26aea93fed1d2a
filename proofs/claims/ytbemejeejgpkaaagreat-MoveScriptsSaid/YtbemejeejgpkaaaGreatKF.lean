/- Ground of laws of thronglaw24: contracts and plain lemmas; no condition beyond the row's own. -/
import Derived.Test.YtbemejeejgpkaaaGreatKE
set_option linter.unusedSimpArgs false
set_option linter.unusedVariables false
namespace Go.V
section
variable {g:Gnd} {c:Int} {t way goal:Nat}
def yc(g:Gnd)(t way:Nat):Int:=(jc g t).getD way (-1)
def Du(g:Gnd)(c:Int)(t:Nat):Int:=wz c (g.T.getD t 5).toNat
def j6(ok:Nat->Bool)(u:Int):Bool:=decide (0<=u)&&ok u.toNat
def F4(way:Nat):Nat:=way-4
def F0(way:Nat):Nat:=(way-3)%4
def yv(g:Gnd)(ok:Nat->Bool)(c:Int)(t way:Nat):Int:=
 if j6 ok (yc g t way)then
  (if way<4 then 5*(Du g c t+Du g c (yc g t way).toNat)
   else if j6 ok (yc g t (F4 way))/\j6 ok (yc g t (F0 way))then 7*(Du g c t+Du g c (yc g t way).toNat)else 0)
 else 0
def xm(g:Gnd)(ok:Nat->Bool)(c:Int)(t u:Nat)(k:Int):Prop:=ok t=true/\t<g.T.length/\∃way,way<8/\yc g t way=(u:Int)/\ok u=true/\k=yv g ok c t way/\0<k
theorem Lm{ok:Nat->Bool}:∀t u k,xm g ok c t u k->0<k:=λt u k h=>by
 obtain⟨_,_,w,_,_,_,_,h⟩:=h
 exact h
theorem R4(hg:zr g)(hw:way<8):yc g t way=-1\/∃u:Nat,yc g t way=u/\u<g.T.length:=by
 unfold yc
 have h8:way<(jc g t).length:=by rw[Ik];exact hw
 rw[Fa9,Fab h8]
 exact pj hg (Faa h8)
theorem bm{ok:Nat->Bool}{u:Int}(h:j6 ok u=true):0<=u/\ok u.toNat=true:=by
 unfold j6 at h
 simpa using h
theorem Vk{ok:Nat->Bool}(h:yv g ok c t way≠0):j6 ok (yc g t way)=true:=by
 unfold yv at h
 split at h
 ·assumption
 ·exact absurd rfl h
theorem uu{ok:Nat->Bool}(ht:ok t=true)(htl:t<g.T.length)(hw:way<8)(h:0<yv g ok c t way):xm g ok c t (yc g t way).toNat (yv g ok c t way):=by
 obtain⟨h1,h2⟩:=bm (Vk (g:=g) (ok:=ok) (c:=c) (t:=t) (way:=way) (by omega))
 exact⟨ht,htl,way,hw,by omega,h2,rfl,h⟩
theorem K0(c:Int)(t:Nat):0<=wz c t/\wz c t<=6:=by
 have h:∀l∈[[2,1,3,5,0,0],[2,1,6,0,0,0],[2,1,0,3,2,0]],∀t:Nat,0<=(l:List Int).getD t 0/\(l:List Int).getD t 0<=6:=by
  intro l hl t
  simp only[Fat,Fb5,or_false]at hl
  by_cases h6:t<6
  ·have:t=0\/t=1\/t=2\/t=3\/t=4\/t=5:=by omega
   rcases hl with rfl|rfl|rfl<;>rcases this with rfl|rfl|rfl|rfl|rfl|rfl<;>decide
  ·rcases hl with rfl|rfl|rfl<;>(rw[Fa9,Fbn (by simp;omega)];decide)
 unfold wz
 split
 ·exact h _ (by simp) t
 ·split
  ·exact h _ (by simp) t
  ·exact h _ (by simp) t
theorem Oz(g:Gnd)(ok:Nat->Bool)(c:Int)(t way:Nat):0<=yv g ok c t way/\yv g ok c t way<=84:=by
 have h1:=K0 c (g.T.getD t 5).toNat
 have h2:=K0 c (g.T.getD (yc g t way).toNat 5).toNat
 unfold yv Du
 split
 ·split
  ·omega
  ·split<;>omega
 ·omega
open Classical in
noncomputable def qy(g:Gnd)(ok:Nat->Bool)(c:Int)(goal:Nat):Nat->Int:=
 if ok goal=true then(if h:∃d,FarOK (xm g ok c) goal d then h.choose else λ_=>-1)else λ_=>-1
theorem b7{ok:Nat->Bool}(hok:ok goal=true){d:Nat->Int}(h:FarOK (xm g ok c) goal d):qy g ok c goal=d:=by
 unfold qy
 rw[if_pos hok]
 have hx:∃d,FarOK (xm g ok c) goal d:=⟨d,h⟩
 rw[dif_pos hx]
 exact yb4 Lm hx.choose_spec h
theorem uk{ok:Nat->Bool}(hok:ok goal=false):qy g ok c goal=λ_=>-1:=by
 unfold qy
 rw[if_neg (by simp[hok])]
noncomputable def qr(g:Gnd)(ok:Nat->Bool)(c:Int)(d:Nat->Int)(t:Nat):Int:=
 if d t<=0 then -1 else match(List.range 8).find? λway=>decide (0<yv g ok c t way/\0<=d (yc g t way).toNat/\yv g ok c t way+d (yc g t way).toNat=d t)with
  |some way=>(way:Int)
  |none=>-1
end
section
variable {id P:Int} {i:Nat} {w:Wld}
def j9(f:Int->Int):List Int->Int
 |[]=>0
 |a::l=>if f a=0 then j9 f l else f a
theorem eh{f:Int->Int}:∀{l:List Int},(∀j,(h:j<l.length)->f l[j]=0)->j9 f l=0
 |[],_=>rfl
 |a::l,h=>by
  have h0:=h 0 (by simp)
  simp only[Fcq]at h0
  unfold j9
  rw[if_pos h0]
  exact eh λj hj=>by
   have:=h (j+1) (by simp;omega)
   simpa using this
theorem Db{f:Int->Int}:∀{l:List Int} {i:Nat} (hi:i<l.length),(∀j,(h:j<l.length)->j<i->f l[j]=0)->f l[i]≠0->j9 f l=f l[i]
 |[],i,hi,_,_=>absurd hi (Fa2 i)
 |a::l,0,hi,_,h=>by
  simp only[Fcq]at h⊢
  unfold j9
  rw[if_neg h]
 |a::l,i+1,hi,h,h2=>by
  have h0:=h 0 (by simp) (by omega)
  simp only[Fcq]at h0
  simp only[List.getElem_cons_succ]at h2⊢
  unfold j9
  rw[if_pos h0]
  exact Db (by simpa using hi) (λj hj hji=>by
   have:=h (j+1) (by simp;omega) (by omega)
   simpa using this) h2
theorem I9{f:Int->Int}:∀{l:List Int},j9 f l=0->∀a∈l,f a=0
 |[],_,a,ha=>by cases ha
 |b::l,h,a,ha=>by
  unfold j9 at h
  by_cases hb:f b=0
  ·rw[if_pos hb]at h
   rcases Fat.1 ha with rfl|ha
   ·exact hb
   ·exact I9 h a ha
  ·rw[if_neg hb]at h
   exact absurd h hb
def yx(l:List Unt)(id:Int):Option Nat:=l.findIdx? λu=>decide (u.id=id)
def unt0:Unt:=⟨0,0,0,(0,0),0,0,0,0,0⟩
theorem Gl{l:List Unt}(h:yx l id=some i):∃hi:i<l.length,l[i].id=id:=by
 unfold yx at h
 rw[Fbd]at h
 obtain⟨h1,h2,_⟩:=h
 exact⟨h1,of_decide_eq_true h2⟩
theorem bt{l:List Unt}(h:yx l id=none):∀u∈l,u.id≠id:=by
 unfold yx at h
 rw[Fbo]at h
 exact λu hu=>of_decide_eq_false (h u hu)
theorem Lk{l:List Unt}(hr:yq l)(hi:i<l.length)(e:l[i].id=id):yx l id=some i:=by
 cases h:yx l id with
 |none=>exact absurd e (bt h _ (Faa hi))
 |some k=>
  obtain⟨hk,e2⟩:=Gl h
  by_cases h1:k<i
  ·have:=Dh hr h1 hi;omega
  ·by_cases h2:i<k
   ·have:=Dh hr h2 hk;omega
   ·rw[show k=i by omega]
def uAt(w:Wld)(id:Int):Unt:=match yx w.U id with|none=>unt0|some i=>w.U.getD i unt0
def xx(w:Wld)(P id:Int):Int:=match yx w.U id with|none=>3|some i=>if(w.U.getD i unt0).owner=P then(if(w.U.getD i unt0).inn=0 then 0 else 9)else 6
theorem Sw(h:yx w.U id=some i):∃hi:i<w.U.length,w.U[i].id=id/\uAt w id=w.U[i]:=by
 obtain⟨hi,e⟩:=Gl h
 refine⟨hi,e,?_⟩
 unfold uAt
 rw[h]
 simp[Fa9,hi]
theorem zbl(h:yx w.U id=none):xx w P id=3/\uAt w id=unt0:=by
 unfold xx uAt
 rw[h]
 exact⟨rfl,rfl⟩
theorem zbk(h:yx w.U id=some i)(hi:i<w.U.length):xx w P id=if w.U[i].owner=P then(if w.U[i].inn=0 then 0 else 9)else 6:=by
 unfold xx
 rw[h]
 simp[Fa9,hi]
theorem Ft(h:xx w P id=0):∃i,∃hi:i<w.U.length,yx w.U id=some i/\w.U[i].id=id/\uAt w id=w.U[i]/\w.U[i].owner=P/\w.U[i].inn=0:=by
 cases hf:yx w.U id with
 |none=>rw[(zbl (P:=P) hf).1]at h;cases h
 |some i=>
  obtain⟨hi,e,e2⟩:=Sw hf
  rw[zbk hf hi]at h
  refine⟨i,hi,rfl,e,e2,?_⟩
  split at h
  ·split at h
   ·exact⟨‹_›,‹_›⟩
   ·cases h
  ·cases h
def wi(u:Unt):Unt:={u with goal:=-1,next:=-1,stuck:=0,state:=0}
def yy(l:List Int)(g:Unt->Unt)(U:List Unt):List Unt:=U.map λu=>if u.id∈l then g u else u
theorem ll(g:Unt->Unt)(U:List Unt):yy [] g U=U:=by
 unfold yy
 simp
theorem Ag(l:List Int)(g:Unt->Unt)(U:List Unt):(yy l g U).length=U.length:=by unfold yy;rw[Fa4]
theorem Kt{l:List Int}{g:Unt->Unt}{U:List Unt}(hi:i<U.length):(yy l g U)[i]'(by rw[Ag];exact hi)=if U[i].id∈l then g U[i]else U[i]:=by unfold yy;rw[Fcf]
theorem ln{l:List Int}{g:Unt->Unt}(hg:∀u,(g u).id=u.id){U:List Unt}(hi:i<U.length):((yy l g U)[i]'(by rw[Ag];exact hi)).id=U[i].id:=by
 rw[Kt hi]
 split
 ·exact hg _
 ·rfl
theorem zos{l:List Int}{g:Unt->Unt}(hg:∀u,(g u).id=u.id){U:List Unt}(hr:yq U):yq (yy l g U):=by
 intro i hi h0
 have hi2:i<U.length:=by rw[Ag]at hi;exact hi
 rw[ln hg hi2,ln hg (show i-1<U.length by omega)]
 exact hr i hi2 h0
theorem lk{l:List Int}{g:Unt->Unt}{U:List Unt}(hr:yq U)(hi:i<U.length):(yy l g U).set i (g U[i])=yy (l++[U[i].id]) g U:=by
 apply Fem
 ·rw[Faf,Ag,Ag]
 intro j h1 h2
 have hj:j<U.length:=by rw[Ag]at h2;exact h2
 rw[Kt hj,Fch]
 by_cases e:i=j
 ·subst e
  rw[if_pos rfl,if_pos (by simp)]
 ·rw[if_neg e,Kt hj]
  have hne:U[j].id≠U[i].id:=by
   by_cases h:i<j
   ·have:=Dh hr h hj;omega
   ·have:=Dh hr (show j<i by omega) hi;omega
  have:(U[j].id∈l++[U[i].id])↔U[j].id∈l:=by simp[hne]
  simp only[this]
def stW(w:Wld)(c:Cmd):Wld:={w with U:=yy c.U wi w.U}
def stE(w:Wld)(c:Cmd):Int:=j9 (xx w c.P) c.U
theorem ztg{α:Type}{f:α->List AV}{k:Nat}(hf:∀x,(f x).length=k){U:List α}(hi:i<U.length)(x:α)(J:List AV):zu ((rws f U).flatten++J) (i*k) (f x)=(rws f (U.set i x)).flatten++J:=by
 have:=Kr (j:=0) (ys:=f x) (L:=J) (x':=x) hf hi (by rw[hf];omega) (by
  unfold zu
  rw[hf x,Fc8,Fc0,Fbe,Fdl (by rw[hf];exact Faj _),Fbv])
 rw[Fey]at this
 exact this
end
section
variable {P:Program} {c:Cfg} {st:Store}
structure SrcOK(P:Program)(st:Store)(k m:Nat)(x:AV)(xs:List AV):Prop where
  out:∀(Oth M:Nat->Nat->Prop) (w:World) (xv:Value),StoreOK st Oth M w->VRel w (λb o=>M b o\/Oth b o) x xv->
    (Builtin.lenOf xv).run P w=.ok m w/\∃new:Array Value,Reads w (λb o=>M b o\/Oth b o) xs new.toList/\(∀v∈new.toList,xa v=true)/\new.size=m*k/\∀w',w'.heap=w.heap->(Builtin.firstCells k m xv).run P w'=.ok new w'
theorem SrcOK.obj{k m o b cp:Nat}{l:List AV}(ho:st.obj b=some (.cells l))(hl:o+m*k<=l.length)(h1:∀y∈(l.drop o).take (m*k),y.one=true):SrcOK P st k m (.s (.slice (some ⟨b,o,none⟩) m cp)) ((l.drop o).take (m*k)):=by
  refine⟨λOth M w xv sto hxv=>?_⟩
  have hxv:=VRel.eq_s hxv
  subst hxv
  obtain⟨cs,e,fr,hb,_,hlen,hrel⟩:=(sto.obj b _ ho).1
  have hreads:Reads w (λb o=>M b o\/Oth b o) ((l.drop o).take (m*k)) ((List.range' 0 (m*k)).map λi=>cs.getD (o+i) undef):=by
    refine⟨by simp;omega,λi x y hx hy=>?_⟩
    have hi:i<m*k:=by
      have:=(Fai.1 hx).1
      simp at this;omega
    rw[Fb7 hi,Fcg]at hx
    simp[hi]at hy
    subst hy
    refine hrel (o+i) x _ hx ?_
    rw[Fa8 (by omega)]
    simp[show o+i<cs.size by omega]
  refine⟨by simp[Builtin.lenOf],((List.range' 0 (m*k)).map λi=>cs.getD (o+i) undef).toArray,by simpa using hreads,by simpa using ot hreads h1,by simp,λw' hw=>?_⟩
  have:=Ic (P:=P) ⟨b,o,none⟩ w' (λi=>cs.getD (o+i) undef) (m*k) 0 #[] (λp hp0 hp=>by
    rw[wd,P8 hw]
    simp only[World.cell?,hb]
    have:o+p<cs.size:=by omega
    simp[this])
  simp only[Builtin.firstCells,loadCells]
  simpa using this
end
section
variable {P:Program} {c:Cfg} {st:Store}
theorem yfd{e:TypeId}{ie:TI}(hie:c.I e=some ie){a:Option Addr}{x:AV}{m:Nat}{xs:List AV}(hx:SrcOK P st ie.size m x xs)(hroom:room m ie.bytes)(hne:0<m){K:Ja}
    (h2:∀b' cap',Fresh st b'->m<=cap'->cap'<=9223372036854775807->K (.s (.slice (some ⟨b',0,none⟩) m cap')) (st.sO b' (.cells (xs++List.replicate ((cap'-m)*ie.size) .any)))):
    AppX P c st e (.s (.slice a 0 0)) x K:=by
  refine⟨⟨ie,hie⟩,λie' hie' Oth M w sv xv argTypes ty args t sto hs hxv hat ht1 hu hti h0 h1'=>?_⟩
  rw[hie]at hie'
  cases hie'
  have hs:=VRel.eq_s hs
  subst hs
  have A:AppArgs P c argTypes args t e ie a 0 0 xv:=⟨hat,ht1,hu,hti,h0,h1'⟩
  obtain⟨hl1,new,hnew,hone,hnsz,hfc⟩:=hx.out Oth M w xv sto hxv
  obtain⟨newCap,rest,g1,g0,g2,g3⟩:=I8 (old:=#[]) ty A hl1 (hfc w.drew rfl) (by cases a<;>simp[Builtin.firstCells,loadCells,loadCellsFrom]) (by omega) (by simpa using hroom)
  have gd:Grow w w.drew:=Grow.drew w
  have sto1:=sto.grow gd
  obtain⟨f1,f2,f3⟩:=F9 sto1 (#[]++new++rest) e (l:=xs++List.replicate rest.size .any) (by
    rw[Fbf,Fbf]
    refine((show Reads w _ xs ([]++new.toList)from hnew).append ⟨by simp,λi x y hx hy=>?_⟩).keep (gd.keeps _)
    rw[Fca]at hx
    split at hx
    · cases hx;exact .any _
    · cases hx)
  rw[g2]at f2
  simp only[Fbe]at g1 g3 f2
  exact⟨_,_,g3,_,_,_,h2 _ newCap f1 g1 g0,.s _,f2,(gd.chg M).trans f3⟩
end
section
variable {α:Type} {f:α->List AV} {k:Nat}
end
instance(a b:Bld):Decidable (Ah a b):=inferInstanceAs (Decidable (_/\_))
def bdB(w:Wld)(c:Cmd):Bld:=⟨w.next,c.P,c.T.tmod w.G.W,c.T.tdiv w.G.W,c.W,c.H⟩
open Classical in
noncomputable def kl(g:Gnd)(l:List Bld)(b:Bld):Int:=if¬onP g b then 3 else if∃x∈l,Ah x b then 12 else if¬C8 g b then 5 else if 256<=l.length then 4 else 0
def M5(w:Wld)(b:Bld):Prop:=∃t:Nat,((t:Int)<w.G.W*w.G.H/\jj w.G b t)/\∃u∈w.U,u.inn=0/\jh w.G t u.pos (zv u.kind)
open Classical in
noncomputable def bdE(w:Wld)(c:Cmd):Int:=if¬(0<=c.T/\c.T<w.G.W*w.G.H)then 3 else if 1099511627776<=w.next then 4 else if kl w.G w.B (bdB w c)=0 then(if M5 w (bdB w c)then 5 else 0)else kl w.G w.B (bdB w c)
def bdW(w:Wld)(c:Cmd):Wld:={w with B:=w.B++[bdB w c],next:=w.next+1}
def yeu:Bld:=⟨0,0,0,0,0,0⟩
def Ce(l:List Bld)(id:Int):Option Nat:=l.findIdx? λb=>decide (b.id=id)
def drE(w:Wld)(c:Cmd):Int:=match Ce w.B c.N with|none=>3|some i=>if(w.B.getD i yeu).owner=c.P then 0 else 6
def drW(w:Wld)(c:Cmd):Wld:=match Ce w.B c.N with|none=>w|some i=>{w with B:=w.B.eraseIdx i}
section
variable {P:Program} {c:Cfg} {ie:TI} {st:Store} {v src:AV}
theorem yfi{α:Type}{f:α->List AV}{e:TypeId}(hie:c.I e=some ie)(hf:∀x,(f x).length=ie.size)(hby:ie.bytes<=1000){l:List α}(hv:RowsQ ie.size f st v l)(hne:l≠[])(hsrc:k9 ie.size (.av src)=some [])(hlen:l.length<=1000000000){K:Ja}
  (h:∀v' st',RowsQ ie.size f st' v' l->K v' st'):appendK P c st e (.av v) (.av src) K:=by
 refine⟨.inr ⟨v,_,rfl,rfl,?_⟩⟩
 have hfl:=ja hf l
 have hmul:l.length*ie.bytes<=1000000000*1000:=Fc7 hlen hby
 rcases hv with(⟨hv,hl0⟩|⟨b,cap,L,rfl,ho,h1,h2,h3⟩)|⟨a,ha,hv,hl0⟩
 ·exact absurd hl0 hne
 ·refine Nz hie (cap:=cap) ho (by rw[Fad,hfl];exact h2) h1 hsrc ⟨by simp;omega,by simp;omega⟩ (λhc=>?_) (λhc=>?_)
  ·have e1:zu ((rws f l).flatten++L) (l.length*ie.size) ([]:List (List AV)).flatten=(rws f l).flatten++L:=by
    rw[List.flatten_nil,D6 hfl]
    simp
   rw[e1]
   exact h _ _ (.inl (.inr ⟨b,cap,L,rfl,zd _ _ _,h1,h2,h3⟩))
  ·simp at hc;omega
 ·exact absurd hl0 hne
theorem yfe{e:TypeId}(hie:c.I e=some ie){a:Option Addr}{x:AV}(hx:k9 ie.size (.av x)=some []){K:Ja}(h:K (.s (.slice a 0 0)) st):AppX P c st e (.s (.slice a 0 0)) x K:=by
 refine⟨⟨ie,hie⟩,λie' hie' Oth M w sv xv argTypes ty args t sto hs hxv hat ht1 hu hti h0 h1'=>?_⟩
 rw[hie]at hie'
 cases hie'
 have hs:=VRel.eq_s hs
 subst hs
 have A:AppArgs P c argTypes args t e ie a 0 0 xv:=⟨hat,ht1,hu,hti,h0,h1'⟩
 obtain⟨hl1,hl2,new,hnew,hone,hnsz,hfc⟩:=G4 (P:=P) (β:=λ_=>0) (k:=ie.size) (x:=.av x) hxv hx
 have hn0:new.toList=[]:=by
  have:new.toList.length=0:=by rw[Fb4,hnsz];simp
  exact Faw this
 have hrun:=I7 (w':=w) ty A hl1 (hfc w rfl) (by simp) (λb hb=>by rw[hn0];simp[storeCells]) (λ_=>rfl)
 exact⟨_,_,hrun,_,_,M,h,.s _,sto,Chg.refl M w⟩
theorem yfh{α:Type}{f:α->List AV}{e:TypeId}(hie:c.I e=some ie)(hf:∀x,(f x).length=ie.size)(hby:ie.bytes<=1000){l:List α}(hv:RowsQ ie.size f st v l)(l2:List α)(hsrc:k9 ie.size (.av src)=some (rws f l2))(hlen:l.length+l2.length<=1000000000){K:Ja}
  (h:∀v' st',RowsQ ie.size f st' v' (l++l2)->K v' st'):appendK P c st e (.av v) (.av src) K:=by
 refine⟨.inr ⟨v,_,rfl,rfl,?_⟩⟩
 have hfl:=ja hf l
 have hfl2:=ja hf l2
 have hl2:(rws f l2).length=l2.length:=zn _
 have hmul:(l.length+l2.length)*ie.bytes<=1000000000*1000:=Fc7 hlen hby
 have happ:(rws f (l++l2)).flatten=(rws f l).flatten++(rws f l2).flatten:=Mh _ _
 have hll:(l++l2).length=l.length+l2.length:=Fad
 have empty:∀a:Option Addr,Kq a->l=[]->v=.s (.slice a 0 0)->AppX P c st e v src K:=λa ha hl0 hva=>by
  subst hl0 hva
  by_cases h2:l2=[]
  ·subst h2
   exact yfe hie hsrc (h _ _ (.inr ⟨a,ha,rfl,rfl⟩))
  ·have h3:0<l2.length:=List.length_pos_iff.2 h2
   refine ed hie hsrc ⟨by rw[hl2];simp at hmul;omega,by rw[hl2];simp at hlen;omega⟩ (by omega) (λb' cap' hb hc hc2=>?_)
   rw[hl2]at hc⊢
   have:=h (.s (.slice (some ⟨b',0,none⟩) l2.length cap')) (st.sO b' (.cells ((rws f l2).flatten++List.replicate ((cap'-l2.length)*ie.size) .any))) (.inl (.inr ⟨b',cap',_,by simp,zd _ _ _,by simpa using hc,by
    simp only[Fbj,Fc0,<-Fb0]
    exact Fa5 _ (by omega),hc2⟩))
   exact this
 rcases hv with(⟨hv,hl0⟩|⟨b,cap,L,rfl,ho,h1,h2,h3⟩)|⟨a,ha,hv,hl0⟩
 ·exact empty none (λx hx=>by cases hx) hl0 hv
 ·refine Nz hie (cap:=cap) ho (by rw[Fad,hfl];exact h2) h1 hsrc ⟨by rw[hl2];omega,by rw[hl2];omega⟩ (λhc=>?_) (λhc b' cap' hb hc1 hc2=>?_)
  ·rw[hl2]at hc⊢
   have hcm:(l.length+l2.length)*ie.size<=cap*ie.size:=Fa5 _ hc
   rw[Fb0]at hcm
   have e1:zu ((rws f l).flatten++L) (l.length*ie.size) (rws f l2).flatten=(rws f (l++l2)).flatten++L.drop (l2.length*ie.size):=by
    rw[D6 hfl,happ,hfl2]
   rw[e1]
   exact h _ _ (.inl (.inr ⟨b,cap,L.drop (l2.length*ie.size),by rw[hll],zd _ _ _,by omega,by rw[hll,Fb0,Fdi];omega,h3⟩))
  ·rw[hl2]at hc hc1⊢
   have e1:((rws f l).flatten++L).take (l.length*ie.size)++(rws f l2).flatten++List.replicate ((cap'-(l.length+l2.length))*ie.size) .any=(rws f (l++l2)).flatten++List.replicate ((cap'-(l.length+l2.length))*ie.size) .any:=by
    rw[Fbl (by omega),Fbr (by omega),happ]
   rw[e1]
   exact h _ _ (.inl (.inr ⟨b',cap',_,by rw[hll],zd _ _ _,by omega,by
    rw[hll,Fbj,<-Fb0]
    exact Fa5 _ (by omega),hc2⟩))
 ·exact empty a ha hl0 hv
end
section
variable {r P N l h:Int} {w:Wld}
def Bm(m r:Int):Prop:=0<=r/\r<=9223372036854775807/\r*r<=m/\(r=9223372036854775807\/m<(r+1)*(r+1))
theorem zy9{m:Int}(h:Bm m r){k:Int}(hk:0<=k)(hk2:k<9223372036854775807):k<r↔(k+1)*(k+1)<=m:=by
 obtain⟨h0,h1,h2,h3⟩:=h
 constructor
 ·intro hkr
  exact Int.le_trans (Fbg (show k+1<=r by omega) (show k+1<=r by omega) (by omega) h0) h2
 ·intro hm
  refine Int.not_le.1 λhle=>?_
  rcases h3 with h3|h3
  ·omega
  ·have:=Fbg (show r+1<=k+1 by omega) (show r+1<=k+1 by omega) (by omega) (by omega)
   omega
theorem zy8{m r':Int}(h:Bm m r)(h':Bm m r'):r=r':=by
 obtain⟨h0,h1,h2,h3⟩:=h
 obtain⟨g0,g1,g2,g3⟩:=h'
 have a:¬r<r':=λhlt=>by
  rcases h3 with h3|h3
  ·omega
  ·have:=Fbg (show r+1<=r' by omega) (show r+1<=r' by omega) (by omega) g0
   omega
 have b:¬r'<r:=λhlt=>by
  rcases g3 with h3|h3
  ·omega
  ·have:=Fbg (show r'+1<=r by omega) (show r'+1<=r by omega) (by omega) h0
   omega
 omega
def Fp(p q:Vc):Prop:=17180131329<=sqr (qp p q)
instance(p q:Vc):Decidable (Fp p q):=inferInstanceAs (Decidable (_<=_))
theorem ztp{p q:Vc}(h:Bm (sqr (qp p q)) r):131072<r↔Fp p q:=by
 have:=zy9 h (k:=131072) (by decide) (by decide)
 unfold Fp
 exact this
def vk(w:Wld)(P N:Int):Int:=if xx w P N=0 then(if jg (uAt w N).kind=0 then 7 else 0)else xx w P N
def Au(x u:Unt):Int:=if 0<jg u.kind then 7 else if Fp u.pos x.pos then 8 else 0
def ldA(w:Wld)(P N id:Int):Int:=if xx w P id=0 then Au (uAt w N) (uAt w id)else xx w P id
def ldE(w:Wld)(c:Cmd):Int:=if vk w c.P c.N=0 then(if j9 (ldA w c.P c.N) c.U=0 then(if jg (uAt w c.N).kind<((z8 w.U c.N).length:Int)+(c.U.length:Int)then 4 else 0)else j9 (ldA w c.P c.N) c.U)else vk w c.P c.N
def ldU(n:Int)(u:Unt):Unt:={u with pos:=(0,0),goal:=-1,next:=-1,stuck:=0,inn:=n,state:=0}
def ldW(w:Wld)(c:Cmd):Wld:={w with U:=yy c.U (ldU c.N) w.U}
theorem rz{id:Int}(h:ldA w P N id=0):xx w P id=0/\Au (uAt w N) (uAt w id)=0:=by
 unfold ldA at h
 by_cases e:xx w P id=0
 ·rw[if_pos e]at h;exact⟨e,h⟩
 ·rw[if_neg e]at h;exact absurd h e
theorem dk(h:vk w P N=0):xx w P N=0/\jg (uAt w N).kind≠0:=by
 unfold vk at h
 by_cases e:xx w P N=0
 ·rw[if_pos e]at h
  refine⟨e,λe2=>?_⟩
  rw[if_pos e2]at h
  cases h
 ·rw[if_neg e]at h;exact absurd h e
theorem ol{n:Int}{q m:Nat}(h0:0<=n)(h1:n<2^m)(h2:n+q*2^m<18446744073709551616):jl .or .u64 (q*2^m) n=q*2^m+n:=by
 obtain⟨a,rfl⟩:=Fb3 h0
 have e:((q:Int)*2^m)=((q*2^m:Nat):Int):=by simp
 have h1':a<2^m:=by exact_mod_cast h1
 rw[e]at h2⊢
 have h3:a+q*2^m<18446744073709551616:=by omega
 rw[(zba (q*2^m) a (by omega) (by omega)).2,Nat.or_comm,pm a q m h1',jm (by omega) (by omega)]
 simp
 omega
theorem zoq{k:Nat}(hk:k<=62):IntKind.u64.wrap (1*2^(min ((k:Int)).toNat IntKind.u64.bits))=2^k:=by
 have:(min ((k:Int)).toNat IntKind.u64.bits)=k:=by
  show min ((k:Int)).toNat 64=k
  omega
 rw[this,Int.one_mul]
 have h:(2:Int)^k<=2^62:=by exact_mod_cast Nat.pow_le_pow_right (by decide) hk
 have h0:(0:Int)<2^k:=Fec (by decide)
 have h2:(2:Int)^62=4611686018427387904:=by decide
 exact jm (by omega) (by omega)
def G5(m r:Int)(k:Nat):Prop:=∃q:Nat,r=q*2^k/\r+2^k<=9223372036854775808/\r*r<=m/\(m<(r+2^k)*(r+2^k)\/r+2^k=9223372036854775808)
theorem ztr{m:Int}(hm:0<=m):G5 m 0 63:=⟨0,by simp,by decide,by simpa using hm,.inr (by decide)⟩
theorem ztt{m:Int}(h:G5 m r 0):Bm m r:=by
 obtain⟨q,e,h1,h2,h3⟩:=h
 have e1:(2:Int)^0=1:=rfl
 rw[e1]at h1 h3 e
 exact⟨by omega,by omega,h2,h3.symm.imp (λh=>by omega) id⟩
theorem ztu{m:Int}{k:Nat}(h:G5 m r (k+1)):jl .or .u64 r (2^k)=r+2^k/\0<=r/\(0:Int)<2^k/\r+2^k<9223372036854775808:=by
 obtain⟨q,e,h1,h2,h3⟩:=h
 have h0:(0:Int)<2^k:=Fec (by decide)
 have e2:(2:Int)^(k+1)=2*2^k:=by rw[Int.pow_succ,Fcz]
 have hr:0<=r:=by rw[e];exact Fax (by omega) (by omega)
 rw[e2]at h1
 refine⟨?_,hr,h0,by omega⟩
 rw[e]
 refine ol (by omega) (by rw[e2];omega) ?_
 rw[<-e];omega
theorem zts{m:Int}{k:Nat}(h:G5 m r (k+1))(hn:m<(r+2^k)*(r+2^k)):G5 m r k:=by
 obtain⟨q,e,h1,h2,h3⟩:=h
 have e2:(2:Int)^(k+1)=2*2^k:=by rw[Int.pow_succ,Fcz]
 have h0:(0:Int)<2^k:=Fec (by decide)
 rw[e2]at h1
 refine⟨2*q,?_,by omega,h2,.inl hn⟩
 rw[e,e2]
 push_cast
 rw[<-Fdv,Fcz (q:Int) 2]
theorem ztq{m:Int}{k:Nat}(h:G5 m r (k+1))(hn:(r+2^k)*(r+2^k)<=m):G5 m (r+2^k) k:=by
 obtain⟨q,e,h1,h2,h3⟩:=h
 have e2:(2:Int)^(k+1)=2*2^k:=by rw[Int.pow_succ,Fcz]
 have h0:(0:Int)<2^k:=Fec (by decide)
 rw[e2]at h1 h3
 have e3:r+2^k+2^k=r+2*2^k:=by omega
 refine⟨2*q+1,?_,by omega,hn,by rw[e3];exact h3⟩
 rw[e,e2]
 push_cast
 rw[Ffa,Int.one_mul,<-Fdv,Fcz (q:Int) 2]
def Ie(m low high:Int):Prop:=0<=low/\low<=high/\high<=9223372036854775807/\low*low<=m/\(m<(high+1)*(high+1)\/high=9223372036854775807)
theorem ztv{m:Int}(hm:0<=m):Ie m 0 9223372036854775807:=⟨by decide,by decide,by decide,by simpa using hm,.inr rfl⟩
theorem zty{m:Int}(hh:Ie m l h)(h1:¬l<h):Bm m l:=by
 obtain⟨g0,g1,g2,g3,g4⟩:=hh
 have:h=l:=by omega
 subst this
 exact⟨g0,g2,g3,g4.symm⟩
theorem ztw{m:Int}(hh:Ie m l h)(h1:l<r)(h2:r<=h)(h3:r*r<=m):Ie m r h:=by
 obtain⟨g0,g1,g2,g3,g4⟩:=hh
 exact⟨by omega,h2,g2,h3,g4⟩
theorem ztx{m:Int}(hh:Ie m l h)(h1:l<r)(h2:r<=h)(h3:m<r*r):Ie m l (r-1):=by
 obtain⟨g0,g1,g2,g3,g4⟩:=hh
 exact⟨g0,by omega,by omega,g3,.inl (by rw[Int.sub_add_cancel];exact h3)⟩
end
section
variable {t i:Nat} {w:Wld} {tile id:Int} {u:Unt}
def ya(g:Gnd)(t:Nat):Vc:=(tx g t+32768,ty g t+32768)
theorem Ry{g:Gnd}(hg:zr g)(ht:t<g.T.length):(ya g t).ok:=by
 have ha:=qe hg
 have:=Ok hg (t:=t) (by omega)
 unfold ya Vc.ok yl
 dsimp only
 omega
def xz(w:Wld)(k tile:Int)(n:Nat):List Nat:=D8 w.G (zj w.G w.B (yf k) (qg k)) (qg k) tile n
theorem lb(g:Gnd)(f:Nat->Bool)(x y k:Int):∀d t,t∈vw g f x y k d->t<g.T.length/\f t=true
 |0,t,h=>by cases h
 |d+1,t,h=>by
  rcases Fan.1 (show t∈vw g f x y k d++Fz g f x y k d from h)with h|h
  ·exact lb g f x y k d t h
  ·unfold Fz Pb at h
   obtain⟨h1,h2⟩:=Fbt.1 h
   exact⟨Fbc.1 (Fbt.1 h1).1,h2⟩
theorem Vq{k:Int}{n:Nat}(h:t∈xz w k tile n):t<w.G.T.length/\zj w.G w.B (yf k) (qg k) t=true:=lb _ _ _ _ _ _ _ (List.mem_of_mem_take h)
theorem zol(w:Wld)(k tile:Int)(n:Nat):(xz w k tile n).length<=n:=by
 unfold xz D8
 rw[Fao]
 exact Nat.min_le_left _ _
open Classical in
noncomputable def Cq(w:Wld)(u:Unt)(tile:Int):Option Nat:=(xz w u.kind tile 64).find? λt=>decide (qa w u.id u.kind (ya w.G t))
open Classical in
theorem zwp{j:Nat}(hj:j<(xz w u.kind tile 64).length)(hno:∀i,(h:i<(xz w u.kind tile 64).length)->i<j->¬qa w u.id u.kind (ya w.G (xz w u.kind tile 64)[i]))(hy:qa w u.id u.kind (ya w.G (xz w u.kind tile 64)[j])):Cq w u tile=some (xz w u.kind tile 64)[j]:=by
 unfold Cq
 rw[List.find?_eq_some_iff_getElem]
 exact⟨decide_eq_true hy,j,hj,rfl,λi hi=>by
  rw[Fbs,decide_eq_false_iff_not]
  exact hno i (by omega) hi⟩
open Classical in
theorem zwq(hno:∀i,(h:i<(xz w u.kind tile 64).length)->¬qa w u.id u.kind (ya w.G (xz w u.kind tile 64)[i])):Cq w u tile=none:=by
 unfold Cq
 rw[Fcl]
 intro t ht
 obtain⟨i,hi,rfl⟩:=Fak ht
 rw[decide_eq_true_iff]
 exact hno i hi
open Classical in
theorem oh(h:Cq w u tile=some t):t∈xz w u.kind tile 64/\qa w u.id u.kind (ya w.G t):=by
 unfold Cq at h
 exact⟨Fc9 h,by have:=Feu h;exact of_decide_eq_true this⟩
def Be(u:Unt)(p:Vc):Unt:={u with pos:=p,inn:=0}
noncomputable def unl(tile:Int):List Int->Wld->Option Wld
 |[],w=>some w
 |id::l,w=>match yx w.U id with
  |none=>none
  |some i=>match Cq w (w.U.getD i unt0) tile with
   |none=>none
   |some t=>unl tile l {w with U:=w.U.set i (Be (w.U.getD i unt0) (ya w.G t))}
theorem Sv{l:List Int}(hi:i<w.U.length)(hf:yx w.U id=some i)(ho:Cq w w.U[i] tile=none):unl tile (id::l) w=none:=by
 show(match yx w.U id with|none=>none|some i=>_)=_
 rw[hf]
 dsimp only
 rw[show w.U.getD i unt0=w.U[i] by simp[Fa9,hi],ho]
theorem Su{l:List Int}(hi:i<w.U.length)(hf:yx w.U id=some i)(ho:Cq w w.U[i] tile=some t):unl tile (id::l) w=unl tile l {w with U:=w.U.set i (Be w.U[i] (ya w.G t))}:=by
 show(match yx w.U id with|none=>none|some i=>_)=_
 rw[hf]
 dsimp only
 rw[show w.U.getD i unt0=w.U[i] by simp[Fa9,hi],ho]
open Classical in
noncomputable def ulE(w:Wld)(c:Cmd):Int:=
 if vk w c.P c.N=0 then
  (if 0<=c.T/\c.T<w.G.W*w.G.H then
   (if Fp (ya w.G c.T.toNat) (uAt w c.N).pos then 8 else(match unl c.T (z8 w.U c.N) w with|none=>5|some _=>0))
  else 3)
 else vk w c.P c.N
noncomputable def ulW(w:Wld)(c:Cmd):Wld:=(unl c.T (z8 w.U c.N) w).getD w
def Hn(L:List Ent)(u:Unt):List Ent:=if u.inn=0 then qo L u.id++[(u.id,u.pos)]else qo L u.id
theorem zw1{L:List Ent}(hF:Dj w L)(hr:yq w.U)(hi:i<w.U.length)(hid:w.U[i].id=u.id):Dj {w with U:=w.U.set i u} (Hn L u):=by
 have old:∀e,e∈qo L u.id↔∃j,∃hj:j<w.U.length,j≠i/\w.U[j].inn=0/\e=(w.U[j].id,w.U[j].pos):=λe=>by
  rw[mem_dropId,hF e]
  constructor
  ·rintro⟨⟨x,hx,h0,rfl⟩,hne⟩
   obtain⟨j,hj,rfl⟩:=Fak hx
   exact⟨j,hj,λe=>hne (by subst e;exact hid),h0,rfl⟩
  ·rintro⟨j,hj,hji,h0,rfl⟩
   refine⟨⟨w.U[j],Faa hj,h0,rfl⟩,λe=>hji ?_⟩
   have e:w.U[j].id=u.id:=e
   by_cases h1:j<i
   ·have:=Fb hr h1 hi;omega
   ·by_cases h2:i<j
    ·have:=Fb hr h2 hj;omega
    ·omega
 intro e
 have key:(∃y∈w.U.set i u,y.inn=0/\e=(y.id,y.pos))↔(u.inn=0/\e=(u.id,u.pos))\/∃j,∃hj:j<w.U.length,j≠i/\w.U[j].inn=0/\e=(w.U[j].id,w.U[j].pos):=by
  constructor
  ·rintro⟨y,hy,h0,he⟩
   obtain⟨j,hj,rfl⟩:=Fak hy
   rw[Faf]at hj
   rw[Fch]at h0 he
   split at h0
   ·rename_i hh
    rw[if_pos hh]at he
    exact .inl ⟨h0,he⟩
   ·rename_i hh
    rw[if_neg hh]at he
    exact .inr ⟨j,hj,Ne.symm hh,h0,he⟩
  ·rintro(⟨h0,he⟩|⟨j,hj,hji,h0,he⟩)
   ·exact⟨u,List.mem_set hi u,h0,he⟩
   ·refine⟨w.U[j],?_,h0,he⟩
    have hj2:j<(w.U.set i u).length:=by rw[Faf];exact hj
    have:(w.U.set i u)[j]=w.U[j]:=by rw[Fch,if_neg (Ne.symm hji)]
    rw[<-this]
    exact Faa hj2
 show e∈Hn L u↔∃y∈w.U.set i u,y.inn=0/\e=(y.id,y.pos)
 rw[key]
 unfold Hn
 split
 ·rename_i h0
  rw[Fan,old,Fb1]
  constructor
  ·rintro(h|h)
   ·exact .inr h
   ·exact .inl ⟨h0,h⟩
  ·rintro(h|h)
   ·exact .inr h.2
   ·exact .inl h
 ·rename_i h0
  rw[old]
  exact⟨.inr,λh=>h.resolve_left λhh=>h0 hh.1⟩
theorem zw2{L:List Ent}(hn:(L.map (·.1)).Nodup)(hF:Dj w L):L.length<=w.U.length:=by
 have:=Fbz (l₂:=w.U.map (·.id)) hn (λid hid=>by
  obtain⟨e,he,rfl⟩:=Fae.1 hid
  obtain⟨u,hu,_,rfl⟩:=(hF e).1 he
  exact Fae.2 ⟨u,hu,rfl⟩)
 rw[Fa4,Fa4]at this
 exact this
theorem Pa{U:List Unt}(hr:yq U)(hi:i<U.length)(hid:U[i].id=u.id):yq (U.set i u):=by
 intro j hj h0
 rw[Faf]at hj
 have:=hr j hj h0
 have id':∀k,(hk:k<U.length)->((U.set i u)[k]'(by rw[Faf];exact hk)).id=U[k].id:=λk hk=>by
  rw[Fch]
  split
  ·rename_i e;subst e;exact hid.symm
  ·rfl
 rw[id' _ (by omega),id' _ hj]
 exact this
theorem yb1{U:List Unt}(hr:yq U)(hi:i<U.length)(hid:U[i].id=u.id)(id:Int):yx (U.set i u) id=yx U id:=by
 have id':∀k,(hk:k<U.length)->((U.set i u)[k]'(by rw[Faf];exact hk)).id=U[k].id:=λk hk=>by
  rw[Fch]
  split
  ·rename_i e;subst e;exact hid.symm
  ·rfl
 cases h:yx U id with
 |some k=>
  obtain⟨hk,e⟩:=Gl h
  exact Lk (Pa hr hi hid) (by rw[Faf];exact hk) (by rw[id' k hk];exact e)
 |none=>
  cases h2:yx (U.set i u) id with
  |none=>rfl
  |some k=>
   obtain⟨hk,e⟩:=Gl h2
   rw[Faf]at hk
   rw[id' k hk]at e
   exact absurd e (bt h _ (Faa hk))
end
section
variable {w:Wld} {k:Nat} {a b:Unt} {kd:Int}
def mvG(g:Int)(u:Unt):Unt:={u with goal:=g,next:=-1,stuck:=0,state:=1}
def Ab(w:Wld)(c:Cmd)(k:Nat)(kd:Int):Int:=match(xz w kd c.T c.U.length)[k]? with|some t=>(t:Int)|none=>c.T
def mvL(w:Wld)(c:Cmd):Nat->List Unt
 |0=>w.U
 |k+1=>match yx w.U (c.U.getD k 0)with
  |some i=>(mvL w c k).set i (mvG (Ab w c k (w.U.getD i unt0).kind) (w.U.getD i unt0))
  |none=>mvL w c k
def mvE(w:Wld)(c:Cmd):Int:=if 0<=c.T/\c.T<w.G.W*w.G.H then j9 (xx w c.P) c.U else 3
def mvW(w:Wld)(c:Cmd):Wld:={w with U:=mvL w c c.U.length}
theorem pr{c:Cmd}{i:Nat}(hk:k<c.U.length)(hf:yx w.U c.U[k]=some i)(hi:i<w.U.length):mvL w c (k+1)=(mvL w c k).set i (mvG (Ab w c k w.U[i].kind) w.U[i]):=by
 show(match yx w.U (c.U.getD k 0)with|some i=>_|none=>_)=_
 rw[show c.U.getD k 0=c.U[k] by simp[Fa9,hk],hf]
 dsimp only
 rw[show w.U.getD i unt0=w.U[i] by simp[Fa9,hi]]
theorem At(w:Wld)(c:Cmd):∀k,(mvL w c k).length=w.U.length
 |0=>rfl
 |k+1=>by
  show(match yx w.U (c.U.getD k 0)with|some i=>_|none=>_:List Unt).length=_
  cases yx w.U (c.U.getD k 0)with
  |none=>exact At w c k
  |some i=>dsimp only;rw[Faf];exact At w c k
theorem M4(w:Wld)(c:Cmd):∀k j,(hj:j<w.U.length)->mvG 0 ((mvL w c k)[j]'(by rw[At];exact hj))=mvG 0 w.U[j]
 |0,j,hj=>rfl
 |k+1,j,hj=>by
  have ih:=M4 w c k j hj
  have key:∀L:List Unt,(hL:j<L.length)->L=mvL w c (k+1)->mvG 0 L[j]=mvG 0 w.U[j]:=λL hL e=>by
   have e2:mvL w c (k+1)=(match yx w.U (c.U.getD k 0)with
    |some i=>(mvL w c k).set i (mvG (Ab w c k (w.U.getD i unt0).kind) (w.U.getD i unt0))
    |none=>mvL w c k):=rfl
   rw[e2]at e
   cases hf:yx w.U (c.U.getD k 0)with
   |none=>rw[hf]at e;subst e;exact ih
   |some i=>
    rw[hf]at e
    obtain⟨hi,_⟩:=Gl hf
    subst e
    rw[Fch]
    split
    ·rename_i e3;subst e3
     rw[show w.U.getD i unt0=w.U[i] by simp[Fa9,hi]]
     rfl
    ·exact ih
  exact key _ (by rw[At];exact hj) rfl
theorem zxu(h:mvG 0 a=mvG 0 b)(g:Int):mvG g a=mvG g b:=by
 have:∀u,mvG g u={mvG 0 u with goal:=g}:=λu=>rfl
 rw[this a,this b,h]
theorem Ha(h:mvG 0 a=mvG 0 b):a.id=b.id/\a.owner=b.owner/\a.kind=b.kind/\a.pos=b.pos/\a.inn=b.inn:=by
 refine⟨?_,?_,?_,?_,?_⟩
 ·have:=congrArg Unt.id h
  exact this
 ·have:=congrArg Unt.owner h
  exact this
 ·have:=congrArg Unt.kind h
  exact this
 ·have:=congrArg Unt.pos h
  exact this
 ·have:=congrArg Unt.inn h
  exact this
theorem Pr(w:Wld)(c:Cmd)(k j:Nat)(hj:j<w.U.length):((mvL w c k)[j]'(by rw[At];exact hj)).id=w.U[j].id:=(Ha (M4 w c k j hj)).1
theorem zxq(hr:yq w.U)(c:Cmd)(k:Nat):yq (mvL w c k):=by
 intro j hj h0
 rw[At]at hj
 have:=hr j hj h0
 rw[Pr w c k _ (by omega),Pr w c k _ hj]
 exact this
theorem zxs(hr:yq w.U)(c:Cmd)(k:Nat)(id:Int):yx (mvL w c k) id=yx w.U id:=by
 cases h:yx w.U id with
 |some i=>
  obtain⟨hi,e⟩:=Gl h
  exact Lk (zxq hr c k) (by rw[At];exact hi) (by rw[Pr w c k i hi];exact e)
 |none=>
  cases h2:yx (mvL w c k) id with
  |none=>rfl
  |some i=>
   obtain⟨hi,e⟩:=Gl h2
   rw[At]at hi
   rw[Pr w c k i hi]at e
   exact absurd e (bt h _ (Faa hi))
theorem zxr{c:Cmd}{u:Unt}(h:u∈mvL w c k):∃x∈w.U,u.id=x.id/\u.owner=x.owner/\u.kind=x.kind/\u.pos=x.pos/\u.inn=x.inn:=by
 obtain⟨j,hj,rfl⟩:=Fak h
 have hj2:=hj
 rw[At]at hj2
 exact⟨w.U[j],Faa hj2,Ha (M4 w c k j hj2)⟩
theorem pz{c:Cmd}(h:¬(0<=c.T/\c.T<w.G.W*w.G.H)):mvE w c=3:=by unfold mvE;rw[if_neg h]
theorem py{c:Cmd}(h:0<=c.T/\c.T<w.G.W*w.G.H):mvE w c=j9 (xx w c.P) c.U:=by unfold mvE;rw[if_pos h]
theorem pu{c:Cmd}(h:k<(xz w kd c.T c.U.length).length):Ab w c k kd=((xz w kd c.T c.U.length)[k]:Nat):=by
 unfold Ab
 rw[Fab h]
theorem pw{c:Cmd}(h:¬k<(xz w kd c.T c.U.length).length):Ab w c k kd=c.T:=by
 unfold Ab
 rw[Fbn (by omega)]
end
section
variable {w:Wld}
noncomputable def aE(w:Wld)(c:Cmd):Int:=if c.K=1 then spE w c else if c.K=2 then mvE w c else if c.K=3 then stE w c else if c.K=4 then bdE w c else if c.K=5 then drE w c else if c.K=6 then ldE w c else ulE w c
noncomputable def aW(w:Wld)(c:Cmd):Wld:=if c.K=1 then spW w c else if c.K=2 then mvW w c else if c.K=3 then stW w c else if c.K=4 then bdW w c else if c.K=5 then drW w c else if c.K=6 then ldW w c else ulW w c
theorem a1{c:Cmd}(h:c.K=1):aE w c=spE w c/\aW w c=spW w c:=by unfold aE aW;rw[h];exact⟨rfl,rfl⟩
theorem a2{c:Cmd}(h:c.K=2):aE w c=mvE w c/\aW w c=mvW w c:=by unfold aE aW;rw[h];exact⟨rfl,rfl⟩
theorem a3{c:Cmd}(h:c.K=3):aE w c=stE w c/\aW w c=stW w c:=by unfold aE aW;rw[h];exact⟨rfl,rfl⟩
theorem a4{c:Cmd}(h:c.K=4):aE w c=bdE w c/\aW w c=bdW w c:=by unfold aE aW;rw[h];exact⟨rfl,rfl⟩
theorem a5{c:Cmd}(h:c.K=5):aE w c=drE w c/\aW w c=drW w c:=by unfold aE aW;rw[h];exact⟨rfl,rfl⟩
theorem a6{c:Cmd}(h:c.K=6):aE w c=ldE w c/\aW w c=ldW w c:=by unfold aE aW;rw[h];exact⟨rfl,rfl⟩
theorem a7{c:Cmd}(h:c.K=7):aE w c=ulE w c/\aW w c=ulW w c:=by unfold aE aW;rw[h];exact⟨rfl,rfl⟩
theorem W0{c:Cmd}(h:j8 c):c.K=1\/c.K=2\/c.K=3\/c.K=4\/c.K=5\/c.K=6\/c.K=7:=Classical.byContradiction λhn=>by
 have hn:c.K≠1/\c.K≠2/\c.K≠3/\c.K≠4/\c.K≠5/\c.K≠6/\c.K≠7:=by omega
 exact Cmd.ok0 hn.1 hn.2.1 hn.2.2.1 hn.2.2.2.1 hn.2.2.2.2.1 hn.2.2.2.2.2.1 hn.2.2.2.2.2.2 h.1
theorem I1{E E':Wld->Cmd->Int}{W W':Wld->Cmd->Wld}{c:Cmd}(h:E w c=E' w c/\W w c=W' w c):doE E w c=doE E' w c/\doW E W w c=doW E' W' w c:=by
 have e:doE E w c=doE E' w c:=by unfold doE;rw[h.1]
 refine⟨e,?_⟩
 unfold doW
 rw[e,h.2]
theorem u0{E:Wld->Cmd->Int}{c:Cmd}(h:doE E w c=0):z6 w/\j8 c/\c.P<=w.players/\E w c=0:=by
 have hb:¬(¬z6 w\/¬j8 c\/w.players<c.P):=λhb=>by rw[Gm hb]at h;cases h
 have h1:z6 w:=Classical.byContradiction λhh=>hb (.inl hh)
 have h2:j8 c:=Classical.byContradiction λhh=>hb (.inr (.inl hh))
 have h3:c.P<=w.players:=Int.not_lt.1 λhh=>hb (.inr (.inr hh))
 refine⟨h1,h2,h3,?_⟩
 rw[Ho h1 h2 h3]at h
 exact h
theorem ga{tile:Int}:∀(l:List Int) (w x:Wld),yq w.U->unl tile l w=some x->x.tick=w.tick/\x.players=w.players/\x.next=w.next/\x.G=w.G/\x.B=w.B/\∃h:x.U.length=w.U.length,∀j,(hj:j<w.U.length)->x.U[j].id=w.U[j].id/\x.U[j].owner=w.U[j].owner/\x.U[j].kind=w.U[j].kind/\(x.U[j]=w.U[j]\/∃t,t<w.G.T.length/\x.U[j].pos=ya w.G t)
 |[],w,x,hr,h=>by
  have:w=x:=Option.some.inj h
  subst this
  exact⟨rfl,rfl,rfl,rfl,rfl,rfl,λj hj=>⟨rfl,rfl,rfl,.inl rfl⟩⟩
 |id::l,w,x,hr,h=>by
  cases hf:yx w.U id with
  |none=>
   have:unl tile (id::l) w=none:=by
    show(match yx w.U id with|none=>none|some i=>_)=_
    rw[hf]
   rw[this]at h;cases h
  |some i=>
   obtain⟨hi,_⟩:=Gl hf
   cases ho:Cq w w.U[i] tile with
   |none=>rw[Sv hi hf ho]at h;cases h
   |some t=>
    rw[Su hi hf ho]at h
    have ht:=(Vq (oh ho).1).1
    obtain⟨h0,h1,h2,h3,h4,h5,h6⟩:=ga l _ x (Pa hr hi (u:=Be w.U[i] (ya w.G t)) rfl) h
    have hl:(w.U.set i (Be w.U[i] (ya w.G t))).length=w.U.length:=Faf
    refine⟨h0,h1,h2,h3,h4,h5.trans hl,λj hj=>?_⟩
    obtain⟨k1,k2,k3,k4⟩:=h6 j (by rw[hl];exact hj)
    by_cases e:i=j
    ·subst e
     have e9:(w.U.set i (Be w.U[i] (ya w.G t)))[i]'(by rw[hl];exact hj)=Be w.U[i] (ya w.G t):=Fbp _
     dsimp only at k1 k2 k3 k4
     rw[e9]at k1 k2 k3 k4
     refine⟨k1,k2,k3,.inr ?_⟩
     rcases k4 with k4|⟨t2,k4,k5⟩
     ·exact⟨t,ht,by rw[k4];rfl⟩
     ·exact⟨t2,k4,k5⟩
    ·have e9:(w.U.set i (Be w.U[i] (ya w.G t)))[j]'(by rw[hl];exact hj)=w.U[j]:=List.getElem_set_ne e _
     dsimp only at k1 k2 k3 k4
     rw[e9]at k1 k2 k3 k4
     exact⟨k1,k2,k3,k4⟩
theorem zdk{c:Cmd}(hr:yq w.U):(ulW w c).tick=w.tick/\(ulW w c).players=w.players/\(ulW w c).next=w.next/\(ulW w c).G=w.G/\(ulW w c).B=w.B/\∃h:(ulW w c).U.length=w.U.length,∀j,(hj:j<w.U.length)->(ulW w c).U[j].id=w.U[j].id/\(ulW w c).U[j].owner=w.U[j].owner/\(ulW w c).U[j].kind=w.U[j].kind/\((ulW w c).U[j]=w.U[j]\/∃t,t<w.G.T.length/\(ulW w c).U[j].pos=ya w.G t):=by
 have key:∀x:Wld,ulW w c=x->x.tick=w.tick/\x.players=w.players/\x.next=w.next/\x.G=w.G/\x.B=w.B/\∃h:x.U.length=w.U.length,∀j,(hj:j<w.U.length)->x.U[j].id=w.U[j].id/\x.U[j].owner=w.U[j].owner/\x.U[j].kind=w.U[j].kind/\(x.U[j]=w.U[j]\/∃t,t<w.G.T.length/\x.U[j].pos=ya w.G t):=λx hx=>by
  unfold ulW at hx
  cases h:unl c.T (z8 w.U c.N) w with
  |none=>
   rw[h]at hx
   have:w=x:=hx
   subst this
   exact⟨rfl,rfl,rfl,rfl,rfl,rfl,λj hj=>⟨rfl,rfl,rfl,.inl rfl⟩⟩
  |some y=>
   rw[h]at hx
   have:y=x:=hx
   subst this
   exact ga _ _ _ hr h
 exact key _ rfl
theorem lm{l:List Int}{g:Unt->Unt}{U:List Unt}{u:Unt}(h:u∈yy l g U):∃x∈U,u=x\/u=g x:=by
 unfold yy at h
 obtain⟨x,hx,rfl⟩:=Fae.1 h
 refine⟨x,hx,?_⟩
 split
 ·exact .inr rfl
 ·exact .inl rfl
theorem yga{c:Cmd}(hn:∀u∈w.U,u.pos.ok)(h:doE aE w c=0):∀u∈(aW w c).U,u.pos.ok:=by
 obtain⟨hm,hc,hp,he⟩:=u0 h
 have z0:Vc.ok (0,0):=by unfold Vc.ok yl;decide
 intro u hu
 rcases W0 hc with k|k|k|k|k|k|k
 ·rw[(a1 k).2]at hu
  rcases Fan.1 (show u∈w.U++[spU w c]from hu)with hu|hu
  ·exact hn u hu
  ·rw[Fb1]at hu
   subst hu
   have:=(Cmd.ok1 k).1 hc.1
   have:=this.2
   show Vc.ok (c.X,c.Y)
   unfold qw at this
   unfold Vc.ok yl
   dsimp only
   omega
 ·rw[(a2 k).2]at hu
  obtain⟨x,hx,_,_,_,e,_⟩:=zxr (show u∈mvL w c c.U.length from hu)
  rw[e];exact hn x hx
 ·rw[(a3 k).2]at hu
  obtain⟨x,hx,rfl|rfl⟩:=lm (show u∈yy c.U wi w.U from hu)
  ·exact hn _ hx
  ·exact hn x hx
 ·rw[(a4 k).2]at hu
  exact hn u hu
 ·rw[(a5 k).2]at hu
  unfold drW at hu
  cases hf:Ce w.B c.N with
  |none=>rw[hf]at hu;exact hn u hu
  |some i=>rw[hf]at hu;exact hn u hu
 ·rw[(a6 k).2]at hu
  obtain⟨x,hx,rfl|rfl⟩:=lm (show u∈yy c.U (ldU c.N) w.U from hu)
  ·exact hn _ hx
  ·exact z0
 ·rw[(a7 k).2]at hu
  obtain⟨_,_,_,_,_,hl,hf⟩:=zdk (c:=c) hm.1.2.1
  obtain⟨j,hj,rfl⟩:=Fak hu
  obtain⟨_,_,_,e|⟨t,ht,e⟩⟩:=hf j (by omega)
  ·rw[e];exact hn _ (Faa _)
  ·rw[e];exact Ry hm.1.1.2.1.1 ht
end
instance(g:Gnd)(t:Nat)(p:Vc)(r:Int):Decidable (jh g t p r):=by unfold jh;infer_instance
instance(g:Gnd)(b:Bld):Decidable (C8 g b):=by unfold C8;infer_instance
instance(g:Gnd)(b:Bld):Decidable (onP g b):=by unfold onP;infer_instance
instance(b:Bld):Decidable (yg b):=by unfold yg;infer_instance
instance(a b:Bld):Decidable (Ah a b):=by unfold Ah;infer_instance
instance(l:List Bld):Decidable (Mo l):=by unfold Mo;infer_instance
instance(l:List Bld):Decidable (R8 l):=by unfold R8;infer_instance
instance(g:Gnd):Decidable (zr g):=by unfold zr;infer_instance
instance(g:Gnd)(l:List Bld):Decidable (Gq g l):=by unfold Gq;infer_instance
instance(g:Gnd)(l:List Bld)(c:Int)(p:Vc)(r:Int):Decidable (Az g l c p r):=by unfold Az;infer_instance
instance(w:Wld)(id k:Int)(p:Vc):Decidable (qa w id k p):=by unfold qa;infer_instance
instance(k:Int):Decidable (jv k):=by unfold jv;infer_instance
instance(g:Gnd)(t:Int):Decidable (wg g t):=by unfold wg;infer_instance
instance(w:Wld)(u:Unt):Decidable (jq w u):=by unfold jq;infer_instance
instance(w:Wld):Decidable (Hh w):=by unfold Hh;infer_instance
instance(l:List Unt):Decidable (yq l):=by unfold yq;infer_instance
instance(w:Wld):Decidable (H4 w):=by unfold H4;infer_instance
instance(w:Wld)(u:Unt):Decidable (Aq w u):=by unfold Aq;infer_instance
instance(w:Wld):Decidable (z6 w):=by unfold z6;infer_instance
instance(x y:Int):Decidable (qw x y):=by unfold qw;infer_instance
instance(t:Int):Decidable (Cn t):=by unfold Cn;infer_instance
instance(t:Int):Decidable (idP t):=by unfold idP;infer_instance
instance(l:List Int):Decidable (Ck l):=by unfold Ck;infer_instance
instance(w:Wld):Decidable (Hj w):=by unfold Hj;infer_instance
def q9(a b:Vc):Vc:=(qf a.1 b.1,qf a.2 b.2)
def qm(v:Vc):Vc:=(nrm v.1,nrm v.2)
def jy(v:Vc)(k:Nat):Vc:=(v.1.tdiv (2^k:Nat),v.2.tdiv (2^k:Nat))
def O8(m:Int):Nat->Int->Int
 |0,r=>r
 |b+1,r=>O8 m b (if(r+(2^b:Nat))*(r+(2^b:Nat))<=m then r+(2^b:Nat)else r)
def jb(m:Int):Int:=O8 m 63 0
theorem ztz{m:Int}(hm:0<=m):∀(b:Nat) (r:Int),0<=r->r*r<=m->(r+(2^b:Nat)=9223372036854775808\/m<(r+(2^b:Nat))*(r+(2^b:Nat)))->r+(2^b:Nat)<=9223372036854775808->Bm m (O8 m b r):=by
 intro b
 induction b with
 |zero=>
  intro r h0 h1 h2 h3
  refine⟨h0,?_,h1,?_⟩
  ·simp only[Nat.pow_zero]at h3
   show r<=_
   omega
  ·show r=_\/_
   simp only[Nat.pow_zero]at h2
   rcases h2 with h2|h2
   ·exact .inl (by omega)
   ·exact .inr h2
 |succ b ih=>
  intro r h0 h1 h2 h3
  have hp:(2^(b+1):Nat)=2^b+2^b:=by rw[Nat.pow_succ];omega
  have hq:0<2^b:=Nat.pow_pos (by decide)
  rw[hp]at h2 h3
  generalize hB:2^b=B at*
  show Bm m (O8 m b (if _ then _ else _))
  rw[hB]
  split
  ·rename_i hle
   refine ih (r+(B:Nat)) (by omega) hle ?_ (by omega)
   rw[Int.add_assoc,show((B:Nat):Int)+(B:Nat)=((B+B:Nat):Int) by omega]
   exact h2
  ·rename_i hle
   exact ih r h0 h1 (.inr (by omega)) (by omega)
theorem F6{m:Int}(hm:0<=m):Bm m (jb m):=ztz hm 63 0 (by decide) (by simpa using hm) (.inl (by decide)) (by decide)
theorem Mm{m r:Int}(hm:0<=m)(h:Bm m r):r=jb m:=zy8 h (F6 hm)
def Dt(c most long:Int):Int:=if c<0 then -((-c)*most/long)else c*most/long
def xh(v:Vc)(most:Int):Vc:=
 if jb (sqr v)<=max most 0 then qm v else(Dt (nrm v.1) (max most 0) (jb (sqr v)),Dt (nrm v.2) (max most 0) (jb (sqr v)))
def Am(p q:Vc)(speed:Int):Vc:=xh (qp q p) speed
def ju(p:Vc)(r:Int)(q:Vc):Vc:=
 if near p q r then xh (if qp p q=(0,0)then(65536,0)else qp p q) (r-jb (sqr (qp p q)))else(0,0)
instance(w:Wld)(id k:Int)(p:Vc):Decidable (qa w id k p):=by unfold qa Az;infer_instance
def qb(w:Wld)(u:Unt)(v:Vc):Nat->Nat->Option (Nat×Vc)
 |0,_=>none
 |n+1,k=>if jy v k=(0,0)then none else if qa w u.id u.kind (q9 u.pos (jy v k))then some (k,q9 u.pos (jy v k))else qb w u v n (k+1)
def ye(w:Wld)(u:Unt):Wld:={w with U:=w.U.map λx=>if x.id=u.id then u else x}
def ww(w:Wld)(u:Unt)(v:Vc):Int:=match qb w u (qm v) 5 0 with|none=>5|some (k,_)=>(k:Int)
def xg(w:Wld)(u:Unt)(v:Vc):Wld:=match qb w u (qm v) 5 0 with|none=>w|some (_,p)=>ye w {u with pos:=p}
def Ai(w:Wld)(u:Unt):Vc:=w.U.foldl (λv x=>if x.inn=0/\x.id≠u.id then q9 v (ju u.pos (zv u.kind+zv x.kind+16384) x.pos)else v) (0,0)
def Cy(w:Wld)(u:Unt):Wld:=xg w u (xh (Ai w u) ((qs u.kind).tdiv 4))
def xq(s:Int)(u:Unt):Unt:={u with goal:=-1,next:=-1,stuck:=0,state:=s}
def okU(w:Wld)(u:Unt)(t:Nat):Bool:=zj w.G w.B (yf u.kind) (qg u.kind) t
def wn(w:Wld)(u:Unt)(own:Nat):Bool:=
 decide (u.next=-1)||decide (u.pos=ya w.G u.next.toNat)|| !okU w u u.next.toNat||(decide (u.next≠own)&& !(jc w.G own).contains u.next)
noncomputable def wk(w:Wld)(u:Unt)(own:Nat):Int:=
 if u.pos≠ya w.G own then own else
  (let way:=qr w.G (okU w u) (yf u.kind) (qy w.G (okU w u) (yf u.kind) u.goal.toNat) own
   if way<0 then -1 else yc w.G own way.toNat)
def wh(w:Wld)(u:Unt):Wld:=
 if ww (ye w {u with stuck:=0}) {u with stuck:=0} (Am u.pos (ya w.G u.next.toNat) (qs u.kind))<5 then xg (ye w {u with stuck:=0}) {u with stuck:=0} (Am u.pos (ya w.G u.next.toNat) (qs u.kind))
 else if u.stuck+1=8 then ye w (xq 4 u)else ye w {u with stuck:=u.stuck+1,next:=-1}
noncomputable def Bp(w:Wld)(u:Unt):Wld:=
 if u.pos=ya w.G u.goal.toNat then ye w (xq 2 u)
 else if wn w u (js w.G u.pos)then
  (if wk w u (js w.G u.pos)<0 then ye w (xq 3 u)else wh w {u with next:=wk w u (js w.G u.pos)})
 else wh w u
noncomputable def xi(w:Wld)(u:Unt):Wld:=if u.goal=-1 then Cy w u else Bp w u
theorem iy(x y:Int):(x-y)*(x-y)=(y-x)*(y-x):=by
 have:y-x=-(x-y):=by omega
 rw[this,Fd8]
theorem zbq{g:Gnd}(hg:zr g){l:List Bld}{c c':Int}{p q:Vc}{k k':Int}(hp:Az g l c p (zv k))(hq:Az g l c' q (zv k')):kx p (zv k) q (zv k')=kx q (zv k') p (zv k):=by
 have b1:=Re hg hp
 have b2:=Re hg hq
 have r1:=Ig k
 have r2:=Ig k'
 unfold kx
 rw[Wp (by omega) (by omega) (by omega) (by omega) (by omega),Wp (by omega) (by omega) (by omega) (by omega) (by omega),iy p.1,iy p.2,Int.add_comm (zv k)]
theorem cz{w w':Wld}{id k:Int}{p:Vc}(hG:w'.G=w.G)(hB:w'.B=w.B)(h:∀v∈w'.U,v.inn=0->v.id≠id->∃x∈w.U,x.inn=0/\x.id≠id/\x.pos=v.pos/\x.kind=v.kind)(hc:qa w id k p):qa w' id k p:=by
 refine⟨by rw[hG,hB];exact hc.1,λv hv h0 hid=>?_⟩
 obtain⟨x,hx,e1,e2,e3,e4⟩:=h v hv h0 hid
 rw[<-e3,<-e4]
 exact hc.2 x hx e1 e2
theorem sj(l:List Unt)(id:Int):z8 l id=((l.map λu=>(u.inn,u.id)).filter λx=>x.1==id).map (·.2):=by
 unfold z8
 rw[List.filter_map,List.map_map]
 rfl
theorem zzp{U U':List Unt}(hl:U'.length=U.length)(h:∀j,(hj:j<U.length)->(U'[j]'(by omega)).inn=U[j].inn/\(U'[j]'(by omega)).id=U[j].id)(id:Int):z8 U' id=z8 U id:=by
 rw[sj,sj]
 have:(U'.map λu=>(u.inn,u.id))=U.map λu=>(u.inn,u.id):=by
  apply Fem (by rw[Fa4,Fa4];exact hl)
  intro j h1 h2
  rw[Fa4]at h1 h2
  rw[Fcf,Fcf,(h j h2).1,(h j h2).2]
 rw[this]
theorem m6{U U':List Unt}(hl:U'.length=U.length)(h:∀j,(hj:j<U.length)->(U'[j]'(by omega)).id=U[j].id)(hr:yq U):yq U':=by
 intro j hj h0
 rw[hl]at hj
 have:=hr j hj h0
 rw[h _ (by omega),h _ hj]
 exact this
theorem zzn{l:List Unt}{u:Unt}(hu:u∈l):u.id∈z8 l u.inn:=by
 unfold z8
 exact Fae.2 ⟨u,Fbt.2 ⟨hu,by simp⟩,rfl⟩
theorem Wt{w:Wld}(hm:z6 w){U:List Unt}(hl:U.length=w.U.length)(h1:∀j,(hj:j<w.U.length)->mvG 0 (U[j]'(by omega))=mvG 0 w.U[j])(h2:∀j,(hj:j<w.U.length)->w.U[j].inn≠0->U[j]'(by omega)=w.U[j])(h3:∀j,(hj:j<w.U.length)->jq w (U[j]'(by omega))):z6 {w with U:=U}:=by
 obtain⟨⟨hh,hr,hu⟩,hc,hd⟩:=hm
 have same:=λj hj=>Ha (h1 j hj)
 have back:∀v∈U,∃j,∃hj:j<w.U.length,v=U[j]'(by omega):=λv hv=>by
  obtain⟨j,hj,rfl⟩:=Fak hv
  exact⟨j,by omega,rfl⟩
 have hin:=zzp hl (λj hj=>⟨(same j hj).2.2.2.2,(same j hj).1⟩)
 refine⟨⟨⟨hh.1,⟨hh.2.1.1,hh.2.1.2.1,by show U.length<=_;rw[hl];exact hh.2.1.2.2⟩,hh.2.2⟩,m6 hl (λj hj=>(same j hj).1) hr,λv hv=>?_⟩,λv hv h0=>?_,λv hv h0=>?_⟩
 ·obtain⟨j,hj,rfl⟩:=back v hv
  refine⟨h3 j hj,λb hb=>?_⟩
  rw[(same j hj).1]
  exact(hu _ (Faa hj)).2 b hb
 ·obtain⟨j,hj,rfl⟩:=back v hv
  obtain⟨e1,_,e3,e4,e5⟩:=same j hj
  rw[e1,e3,e4]
  refine cz (w:=w) rfl rfl (λx hx hx0 hxi=>?_) (hc _ (Faa hj) (by rw[<-e5];exact h0))
  obtain⟨k,hk,rfl⟩:=back x hx
  obtain⟨f1,_,f3,f4,f5⟩:=same k hk
  exact⟨_,Faa hk,by rw[<-f5];exact hx0,by rw[<-f1];exact hxi,f4.symm,f3.symm⟩
 ·obtain⟨j,hj,rfl⟩:=back v hv
  have e5:=(same j hj).2.2.2.2
  rw[e5]at h0
  rw[h2 j hj h0]
  obtain⟨x,hx,g1,g2,g3,g4⟩:=hd _ (Faa hj) h0
  obtain⟨k,hk,rfl⟩:=Fak hx
  obtain⟨f1,f2,f3,f4,f5⟩:=same k hk
  refine⟨U[k]'(by omega),Faa _,by rw[f1];exact g1,⟨by rw[f5];exact g2.1,by rw[f2];exact g2.2⟩,?_,g4⟩
  show((z8 U _).length:Int)<=_
  rw[hin,f3]
  exact g3
theorem uh{q:Unt->Bool}{x:Unt}(hx:q x=false):∀(U:List Unt) (i:Nat),((U.set i x).filter q).length<=(U.filter q).length
 |[],_=>Faj _
 |a::l,0=>by
  rw[List.set_cons_zero,Fcy,Fcy]
  simp only[hx,Fah,if_false]
  split
  ·rw[Fba];omega
  ·exact Faj _
 |a::l,i+1=>by
  rw[List.set_cons_succ,Fcy,Fcy]
  have:=uh hx l i
  split
  ·simp only[Fba];omega
  ·exact this
theorem rm{w:Wld}(hm:z6 w){i:Nat}(hi:i<w.U.length){p:Vc}(hp:qa w w.U[i].id w.U[i].kind p):z6 {w with U:=w.U.set i {w.U[i]with pos:=p,inn:=0}}:=by
 obtain⟨⟨hh,hr,hu⟩,hc,hd⟩:=hm
 have hg:=hh.2.1.1
 have hl:(w.U.set i {w.U[i]with pos:=p,inn:=0}).length=w.U.length:=Faf
 have get:∀j,(hj:j<w.U.length)->(w.U.set i {w.U[i]with pos:=p,inn:=0})[j]'(by omega)=if i=j then{w.U[i]with pos:=p,inn:=0}else w.U[j]:=λj hj=>Fch ..
 have back:∀v∈w.U.set i {w.U[i]with pos:=p,inn:=0},v={w.U[i]with pos:=p,inn:=0}\/∃j,∃hj:j<w.U.length,j≠i/\v=w.U[j]:=λv hv=>by
  obtain⟨j,hj,rfl⟩:=Fak hv
  rw[hl]at hj
  rw[get j hj]
  split
  ·exact .inl rfl
  ·rename_i e;exact .inr ⟨j,hj,Ne.symm e,rfl⟩
 have idne:∀j,(hj:j<w.U.length)->j≠i->w.U[j].id≠w.U[i].id:=λj hj hne e=>by
  rcases Fe4 j i with q|q|q
  ·have:=Fb hr q hi;omega
  ·exact hne q
  ·have:=Fb hr q hj;omega
 have hself:jq w {w.U[i]with pos:=p,inn:=0}/\∀b∈w.B,b.id≠w.U[i].id:=⟨(hu _ (Faa hi)).1,(hu _ (Faa hi)).2⟩
 refine⟨⟨⟨hh.1,⟨hh.2.1.1,hh.2.1.2.1,by show(w.U.set i _).length<=_;rw[hl];exact hh.2.1.2.2⟩,hh.2.2⟩,Pa hr hi rfl,λv hv=>?_⟩,λv hv h0=>?_,λv hv h0=>?_⟩
 ·rcases back v hv with rfl|⟨j,hj,_,rfl⟩
  ·exact hself
  ·exact hu _ (Faa hj)
 ·rcases back v hv with rfl|⟨j,hj,hne,rfl⟩
  ·refine cz (w:=w) rfl rfl (λx hx hx0 hxi=>?_) hp
   rcases back x hx with rfl|⟨k,hk,_,rfl⟩
   ·exact absurd rfl hxi
   ·exact⟨_,Faa hk,hx0,hxi,rfl,rfl⟩
  ·have hcj:=hc _ (Faa hj) h0
   refine⟨hcj.1,λx hx hx0 hxi=>?_⟩
   rcases back x hx with rfl|⟨k,hk,_,rfl⟩
   ·have:=hp.2 _ (Faa hj) h0 (idne j hj hne)
    rw[zbq hg hp.1 hcj.1]at this
    exact this
   ·exact hcj.2 _ (Faa hk) hx0 hxi
 ·rcases back v hv with rfl|⟨j,hj,hne,rfl⟩
  ·exact absurd rfl h0
  obtain⟨x,hx,g1,g2,g3,g4⟩:=hd _ (Faa hj) h0
  obtain⟨k,hk,rfl⟩:=Fak hx
  have hle:((z8 (w.U.set i {w.U[i]with pos:=p,inn:=0}) w.U[j].inn).length:Int)<=jg w.U[k].kind:=by
   have h9:=uh (q:=λu=>u.inn==w.U[j].inn) (x:={w.U[i]with pos:=p,inn:=0}) (by
    show((0:Int)==w.U[j].inn)=false
    simpa using λe=>h0 e.symm) w.U i
   unfold z8 at g3⊢
   rw[Fa4]at g3⊢
   omega
  by_cases e:k=i
  ·subst e
   exact⟨{w.U[k]with pos:=p,inn:=0},List.mem_set hi _,g1,⟨rfl,g2.2⟩,hle,g4⟩
  ·refine⟨w.U[k],?_,g1,g2,hle,g4⟩
   have:(w.U.set i {w.U[i]with pos:=p,inn:=0})[k]'(by omega)=w.U[k]:=by rw[get k hk,if_neg (Ne.symm e)]
   rw[<-this]
   exact Faa _
theorem ri{tile:Int}:∀(l:List Int) (w x:Wld),z6 w->unl tile l w=some x->z6 x
 |[],w,x,hm,h=>by
  have:w=x:=Option.some.inj h
  subst this
  exact hm
 |id::l,w,x,hm,h=>by
  cases hf:yx w.U id with
  |none=>
   have:unl tile (id::l) w=none:=by
    show(match yx w.U id with|none=>none|some i=>_)=_
    rw[hf]
   rw[this]at h;cases h
  |some i=>
   obtain⟨hi,_⟩:=Gl hf
   cases ho:Cq w w.U[i] tile with
   |none=>rw[Sv hi hf ho]at h;cases h
   |some t=>
    rw[Su hi hf ho]at h
    exact ri l _ x (rm hm hi (oh ho).2) h
section
variable {w:Wld} {i:Nat} {u:Unt} {s:Int}
theorem Ar(hr:yq w.U)(hi:i<w.U.length)(hid:u.id=w.U[i].id):ye w u={w with U:=w.U.set i u}:=by
 unfold ye
 congr 1
 refine Fem (by simp) λj h1 h2=>?_
 have hj:j<w.U.length:=by simpa using h1
 rw[Fcf,Fch]
 by_cases e:i=j
 ·subst e
  rw[if_pos hid.symm,if_pos rfl]
 ·rw[if_neg e,if_neg]
  intro hx
  rcases Nat.lt_or_gt_of_ne e with h|h
  ·have:=Dh hr h hj;omega
  ·have:=Dh hr h hi;omega
theorem Ph(hr:yq w.U)(hi:i<w.U.length)(hid:u.id=w.U[i].id):∃h2:i<(ye w u).U.length,(ye w u).U[i]=u:=by
 rw[Ar hr hi hid]
 exact⟨by simpa using hi,by simp⟩
theorem Pg(w:Wld)(u:Unt):(ye w u).U.length=w.U.length:=by simp[ye]
theorem nu(hr:yq w.U)(hi:i<w.U.length)(hid:u.id=w.U[i].id){j:Nat}(hj:j<w.U.length)(hij:j≠i):(ye w u).U[j]'(by rw[Pg];exact hj)=w.U[j]:=by
 have h:=Ar hr hi hid
 have:(ye w u).U=w.U.set i u:=by rw[h]
 simp only[this]
 rw[Fch,if_neg (Ne.symm hij)]
theorem M6(hm:z6 w)(hi:i<w.U.length)(h0:w.U[i].inn=0)(h1:mvG 0 u=mvG 0 w.U[i])(h2:jq w u):z6 (ye w u):=by
 have hid:u.id=w.U[i].id:=(Ha h1).1
 rw[Ar hm.1.2.1 hi hid]
 have get:∀j,(hj:j<w.U.length)->(w.U.set i u)[j]'(by simpa using hj)=if i=j then u else w.U[j]:=λj hj=>Fch ..
 refine Wt hm (by simp) (λj hj=>?_) (λj hj hn=>?_) (λj hj=>?_)
 ·rw[get j hj]
  split
  ·rename_i e;subst e;exact h1
  ·rfl
 ·rw[get j hj]
  split
  ·rename_i e;subst e;exact absurd h0 hn
  ·rfl
 ·rw[get j hj]
  split
  ·exact h2
  ·exact(hm.1.2.2 _ (Faa hj)).1
theorem Ol{v:Vc}:∀(n k:Nat) {r:Nat×Vc},qb w u v n k=some r->qa w u.id u.kind r.2/\(k<=r.1/\r.1<k+n)/\r.2=q9 u.pos (jy v r.1)
 |0,k,r,h=>by cases h
 |n+1,k,r,h=>by
  unfold qb at h
  split at h
  ·cases h
  ·split at h
   ·cases h
    exact⟨‹_›,by omega,rfl⟩
   ·obtain⟨h1,h2,h3⟩:=Ol n (k+1) h
    exact⟨h1,by omega,h3⟩
theorem rj(hm:z6 w)(hi:i<w.U.length)(h0:w.U[i].inn=0)(v:Vc):z6 (xg w w.U[i] v):=by
 unfold xg
 cases h:qb w w.U[i] (qm v) 5 0 with
 |none=>exact hm
 |some r=>
  obtain⟨k,p⟩:=r
  dsimp only
  obtain⟨h1,_,_⟩:=Ol 5 0 h
  rw[Ar (u:={w.U[i]with pos:=p}) hm.1.2.1 hi rfl]
  have:=rm hm hi h1
  have e:({w.U[i]with pos:=p,inn:=0}:Unt)={w.U[i]with pos:=p}:=by rw[<-h0]
  rw[e]at this
  exact this
theorem Oi(hm:z6 w)(hi:i<w.U.length):jq w w.U[i]:=(hm.1.2.2 _ (Faa hi)).1
theorem zdb(h:jq w u)(hs:s=2\/s=3\/s=4):jq w (xq s u):=by
 obtain⟨⟨a1,a2,a3⟩,_,_,_⟩:=h
 refine⟨⟨a1,a2,a3⟩,⟨.inl rfl,.inl rfl,by show(0:Int)<=0/\(0:Int)<8;omega⟩,⟨by show 0<=s/\s<=4;omega,?_⟩,λ_=>⟨rfl,rfl⟩⟩
 show s=1↔(-1:Int)≠-1
 omega
theorem L7(h:jq w u)(hg:u.goal≠-1){nx st:Int}(hn:wg w.G nx)(hs:0<=st/\st<8):jq w {u with next:=nx,stuck:=st}:=by
 obtain⟨⟨a1,a2,a3⟩,⟨b1,b2,b3⟩,c,d⟩:=h
 exact⟨⟨a1,a2,a3⟩,⟨b1,hn,hs⟩,c,λe=>absurd e hg⟩
theorem Wu(hm:z6 w)(hi:i<w.U.length)(h0:w.U[i].inn=0)(hs:s=2\/s=3\/s=4)(hu:mvG 0 u=mvG 0 w.U[i])(hup:jq w u):z6 (ye w (xq s u)):=
 M6 hm hi h0 (by rw[<-hu];rfl) (zdb hup hs)
theorem rk(hm:z6 w)(hi:i<w.U.length)(h0:w.U[i].inn=0)(hu:mvG 0 u=mvG 0 w.U[i])(hup:jq w u)(hg:u.goal≠-1):z6 (wh w u):=by
 have hid:u.id=w.U[i].id:=(Ha hu).1
 have hin:u.inn=w.U[i].inn:=(Ha hu).2.2.2.2
 unfold wh
 split
 ·have hp:jq w {u with stuck:=0}:=L7 hup hg hup.2.1.2.1 (by omega)
  have hm2:z6 (ye w {u with stuck:=0}):=M6 hm hi h0 (by rw[<-hu];rfl) hp
  obtain⟨h2,e⟩:=Ph (u:={u with stuck:=0}) hm.1.2.1 hi hid
  have:=rj hm2 h2 (by rw[e];exact hin.trans h0) (Am u.pos (ya w.G u.next.toNat) (qs u.kind))
  rw[e]at this
  exact this
 ·split
  ·exact Wu hm hi h0 (.inr (.inr rfl)) hu hup
  ·rename_i h8
   have:=hup.2.1.2.2
   exact M6 hm hi h0 (by rw[<-hu];rfl) (L7 hup hg (.inl rfl) (by omega))
theorem Wj(hm:z6 w)(hi:i<w.U.length)(h0:w.U[i].inn=0):(0<=w.U[i].pos.1/\w.U[i].pos.1<w.G.W*65536)/\(0<=w.U[i].pos.2/\w.U[i].pos.2<w.G.H*65536):=by
 have:=Re hm.1.1.2.1.1 (hm.2.1 _ (Faa hi) h0).1
 have:=this.1
 have:=this.2
 omega
theorem Pk(hm:z6 w)(hi:i<w.U.length)(h0:w.U[i].inn=0):js w.G w.U[i].pos<w.G.T.length:=(Vg hm.1.1.2.1.1 (Wj hm hi h0)).2.1
theorem Oo{g:Gnd}(hg:zr g){t:Nat}(h:t<g.T.length):wg g (t:Int):=.inr (by have:=hg.2.2.1;omega)
theorem fe(g:Gnd)(ok:Nat->Bool)(c:Int)(d:Nat->Int)(t:Nat):qr g ok c d t=-1\/∃way:Nat,way<8/\qr g ok c d t=way/\0<yv g ok c t way:=by
 unfold qr
 split
 ·exact .inl rfl
 ·cases h:(List.range 8).find? λway=>decide (0<yv g ok c t way/\0<=d (yc g t way).toNat/\yv g ok c t way+d (yc g t way).toNat=d t)with
  |none=>exact .inl rfl
  |some way=>
   have h1:=Fc9 h
   have h2:=Feu h
   exact .inr ⟨way,by simpa using h1,rfl,(of_decide_eq_true h2).1⟩
theorem Wn(hg:zr w.G){own:Nat}(ho:own<w.G.T.length):wg w.G (wk w u own):=by
 unfold wk
 split
 ·exact Oo hg ho
 ·dsimp only
  rcases fe w.G (okU w u) (yf u.kind) (qy w.G (okU w u) (yf u.kind) u.goal.toNat) own with h|⟨way,h1,h2,_⟩
  ·rw[h,if_pos (by decide)];exact .inl rfl
  ·rw[h2,if_neg (by omega)]
   rcases R4 hg (t:=own) (way:=way) h1 with h3|⟨x,h3,h4⟩
   ·rw[Fa0,h3];exact .inl rfl
   ·rw[Fa0,h3];exact Oo hg h4
theorem zyf(hm:z6 w)(hi:i<w.U.length)(h0:w.U[i].inn=0)(hg:w.U[i].goal≠-1):z6 (Bp w w.U[i]):=by
 have hu:=Oi hm hi
 unfold Bp
 split
 ·exact Wu hm hi h0 (.inl rfl) rfl hu
 ·split
  ·split
   ·exact Wu hm hi h0 (.inr (.inl rfl)) rfl hu
   ·exact rk hm hi h0 (u:={w.U[i]with next:=wk w w.U[i] (js w.G w.U[i].pos)}) rfl (L7 hu hg (Wn hm.1.1.2.1.1 (Pk hm hi h0)) hu.2.1.2.2) hg
  ·exact rk hm hi h0 rfl hu hg
theorem zx9(hm:z6 w)(hi:i<w.U.length)(h0:w.U[i].inn=0):z6 (xi w w.U[i]):=by
 unfold xi
 split
 ·exact rj hm hi h0 _
 ·exact zyf hm hi h0 ‹_›
end
structure MayF(w:Wld):Prop where
 hg:zr w.G
 hB:w.B.length<=256
 hU:w.U.length<=4096
 hT:w.G.T.length<=16384
 hb:∀b∈w.B,yg b/\onP w.G b
 hk:∀u∈w.U,jv u.kind
 hr:yq w.U
 hn1:1<=w.next
 hn2:w.next<=1099511627776
theorem jd{w:Wld}(h:z6 w):MayF w:=by
 obtain⟨⟨hh,hok⟩,_⟩:=h
 have hbl:=hh.2.1.2.1
 have ha:=qe hh.2.1.1
 exact⟨hh.2.1.1,hbl.1,hh.2.1.2.2,by omega,λb hb=>⟨(hbl.2.2.1 b hb).1,(hbl.2.2.1 b hb).2.1⟩,λu hu=>(hok.2 u hu).1.1.2.2,hok.1,hh.1.2.2.1,hh.1.2.2.2⟩
theorem MayF.fits{w:Wld}(h:MayF w):w.fits:=⟨by unfold Gnd.fits;have:=h.hT;omega,by have:=h.hB;omega,by have:=h.hU;omega⟩
theorem K9(k:Int):0<=qg k/\qg k<=3:=by unfold qg;split<;>decide
end Go.V
