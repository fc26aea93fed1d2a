/- The ground on which laws of thronglaw24 are proved: contracts of functions and plain lemmas; no condition beyond the row's own. -/
import Derived.SizedLaws
import Derived.OpenShut
import Derived.Deep.Slices
import Derived.RowKit3
import Derived.Carry
import Derived.ProofKit
import Derived.Test.YtbemejeejgpkaaaGreatKE
import Derived.Test.YtbemejeejgpkaaaGreatKD
import Derived.Test.YtbemejeejgpkaaaGreatKC
set_option linter.unusedSimpArgs false
set_option linter.unusedVariables false
namespace Go.V
theorem ACalls.frozenTo{P:Program}{f:FuncId}{xs:List AV}{st0:Store}{Q:AV->Store->Prop}{R:AV->Store->Prop}(h:ACalls P f xs st0 Q)
    (hQ:∀r S,Q r S->∃r2 S2,R r2 S2/\(∀b x,S2.obj b=some x->S.obj b=some x)/\(∀b x,S2.tok b≠some x)∧
      ∀(Oth M:Nat->Nat->Prop) (w:World) (v:Value),StoreOK S Oth M w->VRel w (fun b o=>M b o\/Oth b o) r v->VRel w (fun b o=>(M b o\/Oth b o)/\(S.obj b=none\/S2.obj b≠none)) r2 v):
    ACalls P f xs st0 R:=by
  refine⟨fun Oth M w vs sto hr=>?_⟩
  have h1:=h.out Oth M w vs sto hr
  have key:∀v w',zu st0 Q Oth M w v w'->zu st0 R Oth M w v w':=by
    rintro v w' ⟨r,S,M',hq,hv,hs,hc⟩
    obtain⟨r2,S2,hr2,hsub,htok,hk⟩:=hQ r S hq
    have hT:∀b o,((M' b o/\(S.obj b=none\/S2.obj b≠none))\/Oth b o)->(M' b o\/Oth b o):=fun b o h=>h.imp (·.1) id
    refine⟨r2,S2,fun b o=>M' b o/\(S.obj b=none\/S2.obj b≠none),hr2,(hk Oth M' w' v hs hv).mono fun b o hT=>?_,?_,?_⟩
    · rcases hT with⟨h1,h2⟩|h1
      · exact⟨.inl h1,h2⟩
      · refine⟨.inr h1,?_⟩
        cases hb:S.obj b with
        |none=>exact .inl rfl
        |some y=>exact absurd ((hs.obj b y hb).2 o) (hs.dis b o h1)
    · exact { obj:=fun b x hx=>⟨(hs.obj b x (hsub b x hx)).1.mono hT,fun o=>⟨(hs.obj b x (hsub b x hx)).2 o,.inr (by rw[hx];simp)⟩⟩
              tok:=fun b x hx=>absurd hx (htok b x),mlt:=fun b o hm=>hs.mlt b o hm.1,olt:=hs.olt,dis:=fun b o ho hm=>hs.dis b o ho hm.1}
    · exact{size:=hc.size,keep:=hc.keep,blk:=hc.blk,shp:=hc.shp,sub:=fun b o hm hb=>hc.sub b o hm.1 hb,tape:=hc.tape,os:=hc.os,output:=hc.output}
  generalize(callFunc f vs).run P w=res at h1
  cases res with
  | ok n w'=>
    cases n with
    |enter g args=>exact Calls.mono h1 fun e w'' ⟨v,he,hv⟩=>⟨v,he,key _ _ hv⟩
    |value v=>exact key _ _ h1
    |_=>exact h1
  |_=>exact h1
end Go.V
namespace Go.V
def zeh(a:Option Addr):Prop:=∀x,a=some x->x.spot=none
section
variable {P:Program} {c:Cfg} {st:Store}
theorem ycq{e:TypeId}{ie:TI}(hie:c.I e=some ie){a:Option Addr}{x:AV}{rows:List (List AV)}(hx:xc ie.size (.av x)=some rows)(hroom:room rows.length ie.bytes)(hne:0<rows.length){K:AV->Store->Prop}
  (h2:∀b' cap',Fresh st b'->rows.length<=cap'->cap'<=9223372036854775807->K (.s (.slice (some ⟨b',0,none⟩) rows.length cap')) (st.setObj b' (.cells (rows.flatten++List.replicate ((cap'-rows.length)*ie.size) .any)))):
  AppX P c st e (.s (.slice a 0 0)) x K:=by
 refine⟨⟨ie,hie⟩,fun ie' hie' Oth M w sv xv argTypes ty args t sto hs hxv hat ht1 hu hti h0 h1'=>?_⟩
 rw[hie]at hie'
 cases hie'
 have hs:=VRel.eq_s hs
 subst hs
 have A:AppArgs P c argTypes args t e ie a 0 0 xv:=⟨hat,ht1,hu,hti,h0,h1'⟩
 obtain⟨hl1,hl2,new,hnew,hone,hnsz,hfc⟩:=wy (P:=P) (β:=fun _=>0) (k:=ie.size) (x:=.av x) hxv hx
 obtain⟨newCap,rest,g1,g0,g2,g3⟩:=jz (old:=#[]) ty A hl1 (hfc w.drew rfl) (by cases a<;>simp[Builtin.firstCells,loadCells,loadCellsFrom]) (by omega) (by simpa using hroom)
 have gd:Grow w w.drew:=Grow.drew w
 have sto1:=sto.grow gd
 obtain⟨f1,f2,f3⟩:=xf sto1 (#[]++new++rest) e (l:=rows.flatten++List.replicate rest.size .any) (by
  rw[Array.toList_append,Array.toList_append]
  refine((show Reads w _ rows.flatten ([]++new.toList)from hnew).append ⟨by simp,fun i x y hx hy=>?_⟩).keep (gd.keeps _)
  rw[List.getElem?_replicate]at hx
  split at hx
  ·cases hx;exact .any _
  ·cases hx)
 rw[g2]at f2
 simp only[Nat.zero_add]at g1 g3 f2
 exact⟨_,_,g3,_,_,_,h2 _ newCap f1 g1 g0,.s _,f2,(gd.chg M).trans f3⟩
theorem yno{e:TypeId}{ie:TI}(hie:c.I e=some ie){x:AV}{rows:List (List AV)}(hx:xc ie.size (.av x)=some rows)(hroom:room rows.length ie.bytes){K:AV->Store->Prop}
  (h1:rows=[]->∀a,zeh a->K (.s (.slice a 0 0)) st)
  (h2:0<rows.length->∀b' cap',Fresh st b'->rows.length<=cap'->cap'<=9223372036854775807->K (.s (.slice (some ⟨b',0,none⟩) rows.length cap')) (st.setObj b' (.cells (rows.flatten++List.replicate ((cap'-rows.length)*ie.size) .any)))):
  AppX P c st e .emp x K:=by
 refine⟨⟨ie,hie⟩,fun ie' hie' Oth M w sv xv argTypes ty args t sto hs hxv hat ht1 hu hti h0 h1'=>?_⟩
 cases hs with
 |emp a ha=>
  by_cases hr:0<rows.length
  ·exact(ycq hie hx hroom hr (h2 hr)).out ie' hie' Oth M w _ xv argTypes ty args t sto (.s _) hxv hat ht1 hu hti h0 h1'
  ·rw[hie]at hie'
   cases hie'
   have hr0:rows=[]:=List.eq_nil_of_length_eq_zero (by omega)
   subst hr0
   have A:AppArgs P c argTypes args t e ie a 0 0 xv:=⟨hat,ht1,hu,hti,h0,h1'⟩
   obtain⟨hl1,hl2,new,hnew,hone,hnsz,hfc⟩:=wy (P:=P) (β:=fun _=>0) (k:=ie.size) (x:=.av x) hxv hx
   have hn0:new.toList=[]:=by
    have:new.toList.length=0:=by rw[Array.length_toList,hnsz];simp
    exact List.eq_nil_of_length_eq_zero this
   have hrun:=vm (w':=w) ty A hl1 (hfc w rfl) (by simp) (fun b hb=>by rw[hn0];simp[storeCells]) (fun _=>rfl)
   exact⟨_,_,hrun,_,_,M,h1 rfl a ha,.s _,sto,Chg.refl M w⟩
end
def RowsQ{α:Type}(k:Nat)(f:α->List AV)(st:Store)(v:AV)(l:List α):Prop:=
 RowsO k f st v l\/∃a,zeh a/\v=.s (.slice a 0 0)/\l=[]
section
variable {α:Type} {f:α->List AV} {k:Nat}
theorem RowsO.q{st:Store}{v:AV}{l:List α}(h:RowsO k f st v l):RowsQ k f st v l:=.inl h
theorem RowsQ.un{a g:Store}{v:AV}{l:List α}(h:RowsQ k f g v l):RowsQ k f (a.un g) v l:=h.imp (·.un) id
theorem RowsQ.unL{a g:Store}{v:AV}{l:List α}(h:RowsQ k f a v l)(hd:Disj a g):RowsQ k f (a.un g) v l:=h.imp (·.unL hd) id
theorem RowsQ.form{st:Store}{v:AV}{l:List α}(h:RowsQ k f st v l):∃oa cap,v=.s (.slice oa l.length cap)/\∀i,i<l.length->∃b L,oa=some ⟨b,0,none⟩/\st.obj b=some (.cells ((rws f l).flatten++L)):=by
 rcases h with(⟨rfl,rfl⟩|⟨b,cap,L,rfl,ho,_⟩)|⟨a,_,rfl,rfl⟩
 ·exact⟨none,0,rfl,fun i hi=>absurd hi (Nat.not_lt_zero i)⟩
 ·exact⟨_,cap,rfl,fun i _=>⟨b,L,rfl,ho⟩⟩
 ·exact⟨a,0,rfl,fun i hi=>absurd hi (Nat.not_lt_zero i)⟩
theorem RowsQ.borrow{st:Store}{v:AV}{l:List α}(hf:∀x,(f x).length=k)(hs:∀x,∀y∈f x,∃u,y=AV.s u/\yd u=true)(hv:RowsQ k f st v l){Oth M:Nat->Nat->Prop}{w:World}(sto:StoreOK st Oth M w){x:Value}(hx:VRel w (fun b o=>M b o\/Oth b o) v x):
  VRel w (fun b o=>(M b o\/Oth b o)/\st.obj b=none) (lst k f l) x:=by
 rcases hv with hv|⟨a,ha,rfl,rfl⟩
 ·exact hv.borrow hf hs sto hx
 ·cases hx
  exact .nil k a
theorem RowsQ.sub{S S2:Store}{v:AV}{l:List α}(h:RowsQ k f S v l)(hk:∀b n c,v=.s (.slice (some ⟨b,0,none⟩) n c)->S2.obj b=S.obj b):RowsQ k f S2 v l:=by
 rcases h with(h|⟨b,cap,L,rfl,ho,h2⟩)|h
 ·exact .inl (.inl h)
 ·exact .inl (.inr ⟨b,cap,L,rfl,by rw[hk b _ _ rfl];exact ho,h2⟩)
 ·exact .inr h
theorem zjl{P:Program}{c:Cfg}{e:TypeId}{ie:TI}(hie:c.I e=some ie)(hf:∀x,(f x).length=ie.size)(hby:ie.bytes<=1000){st:Store}{l:List α}(hlen:l.length<=1000000000){K:AV->Store->Prop}
  (h:∀v N,RowsQ ie.size f N v l->Disj N st->K v (N.un st)):appendK P c st e (.av .emp) (.av (lst ie.size f l)) K:=by
 refine⟨.inr ⟨_,_,rfl,rfl,?_⟩⟩
 have hmul:l.length*ie.bytes<=1000000000*1000:=Nat.mul_le_mul (by omega) hby
 refine yno hie (rows:=rws f l) (by simp[xc,lst]) ⟨by rw[zk];omega,by rw[zk];omega⟩ (fun hr a ha=>?_) (fun hr b cap hb hc hc2=>?_)
 ·have hl:l=[]:=by
   have:=congrArg List.length hr
   rw[zk]at this
   exact List.eq_nil_of_length_eq_zero this
  subst hl
  have:=h (.s (.slice a 0 0)) Store.empty (.inr ⟨a,ha,rfl,rfl⟩) (fun b hb=>(hb.elim (fun h=>h rfl) (fun h=>h rfl):False).elim)
  rwa [xt]at this
 ·rw[zk]at hc⊢
  have:=h (.s (.slice (some ⟨b,0,none⟩) l.length cap)) (Store.empty.setObj b (.cells ((rws f l).flatten++List.replicate ((cap-l.length)*ie.size) .any))) (.inl (.inr ⟨b,cap,_,rfl,zb _ _ _,hc,by
   simp only[List.length_replicate,<-Nat.add_mul]
   exact Nat.mul_le_mul_right _ (by omega),hc2⟩)) (fun i hi hs=>by
    have:i=b:=Decidable.byContradiction fun hne=>by
     rcases hi with hi|hi
     ·rw[zd hne]at hi;exact hi rfl
     ·exact hi rfl
    subst this
    exact fresh_iff.1 hb hs)
  have e:(Store.empty.setObj b (.cells ((rws f l).flatten++List.replicate ((cap-l.length)*ie.size) .any))).un st=st.setObj b (.cells ((rws f l).flatten++List.replicate ((cap-l.length)*ie.size) .any)):=by
   rw[<-qb (fresh_iff.1 hb),xt]
  rw[e]at this
  exact this
end
end Go.V
namespace Go.V
theorem k6{st:Store}{w:Wld}{v:AV}(hv:RowsQ 10 untC st v w.U){Oth M:Nat->Nat->Prop}{W:World}(sto:StoreOK st Oth M W){x:Value}(hx:VRel W (fun b o=>M b o\/Oth b o) (.agg (wldV w v)) x):
  VRel W (fun b o=>(M b o\/Oth b o)/\st.obj b=none) (.agg (wldC w)) x:=by
 cases hx with
 |agg _ c hl hc=>
  refine .agg _ c hl fun i x y hx hy=>?_
  match i with
  |0=>simp only[wldC,List.getElem?_cons_zero,Option.some.injEq]at hx;subst hx;exact z8 (hc 0 _ y rfl hy)
  |1=>simp only[wldC,List.getElem?_cons_succ,List.getElem?_cons_zero,Option.some.injEq]at hx;subst hx;exact z8 (hc 1 _ y rfl hy)
  |2=>simp only[wldC,List.getElem?_cons_succ,List.getElem?_cons_zero,Option.some.injEq]at hx;subst hx;exact z8 (hc 2 _ y rfl hy)
  |3=>simp only[wldC,List.getElem?_cons_succ,List.getElem?_cons_zero,Option.some.injEq]at hx;subst hx;exact z8 (hc 3 _ y rfl hy)
  |4=>simp only[wldC,List.getElem?_cons_succ,List.getElem?_cons_zero,Option.some.injEq]at hx;subst hx;exact z8 (hc 4 _ y rfl hy)
  |5=>simp only[wldC,List.getElem?_cons_succ,List.getElem?_cons_zero,Option.some.injEq]at hx;subst hx;exact z8 (hc 5 _ y rfl hy)
  |6=>simp only[wldC,List.getElem?_cons_succ,List.getElem?_cons_zero,Option.some.injEq]at hx;subst hx;exact z8 (hc 6 _ y rfl hy)
  |7=>simp only[wldC,List.getElem?_cons_succ,List.getElem?_cons_zero,Option.some.injEq]at hx;subst hx;exact hv.borrow qf yny sto (hc 7 _ y rfl hy)
  |i+8=>simp[wldC]at hx
def offB(v:AV)(p:Nat):Prop:=∀b n c,v=.s (.slice (some ⟨b,0,none⟩) n c)->0<c->b≠p
theorem RowsQ.set{α:Type}{f:α->List AV}{k:Nat}{S:Store}{v:AV}{l:List α}(h:RowsQ k f S v l){p:Nat}(hp:offB v p)(x:AObj):RowsQ k f (S.setObj p x) v l:=by
 rcases h with(h|⟨b,cap,L,rfl,ho,h2,h3⟩)|h
 ·exact .inl (.inl h)
 ·by_cases hc:0<cap
  ·exact .inl (.inr ⟨b,cap,L,rfl,by rw[zd (hp b _ _ rfl hc)];exact ho,h2,h3⟩)
  ·have h0:cap=0:=by omega
   subst h0
   have hl:l=[]:=List.eq_nil_of_length_eq_zero (by omega)
   subst hl
   exact .inr ⟨_,fun x hx=>by cases hx;rfl,rfl,rfl⟩
 ·exact .inr h
theorem zda{α:Type}{f:α->List AV}{k:Nat}{S:Store}{v:AV}{l:List α}(h:RowsQ k f S v l){p:Nat}(hp:S.obj p=none):offB v p:=by
 rcases h with(⟨rfl,rfl⟩|⟨b,cap,L,rfl,ho,h2⟩)|⟨a,ha,rfl,rfl⟩
 ·intro b n c e
  simp at e
 ·intro b' n c e _
  simp only[AV.s.injEq,Value.slice.injEq,Option.some.injEq,Addr.mk.injEq]at e
  obtain⟨⟨rfl,_⟩,_⟩:=e
  intro e2
  subst e2
  rw[hp]at ho
  cases ho
 ·intro b n c e hc
  simp only[AV.s.injEq,Value.slice.injEq]at e
  omega
def spU(w:Wld)(c:Cmd):Unt:=⟨w.next,c.P,c.N,(c.X,c.Y),-1,-1,0,0,0⟩
def spW(w:Wld)(c:Cmd):Wld:={w with U:=w.U++[spU w c],next:=w.next+1}
def ysq(w:Wld):Prop:=4096<=w.U.length\/1099511627776<=w.next
open Classical in
noncomputable def spE(w:Wld)(c:Cmd):Int:=if ysq w then 4 else if yv w 0 c.N (c.X,c.Y)then 0 else 5
end Go.V
namespace Go.V
end Go.V
namespace Go.V
end Go.V
namespace Go.V
def allE(f:Int->Int):List Int->Int
 |[]=>0
 |a::l=>if f a=0 then allE f l else f a
def zi2(l:List Unt)(id:Int):Option Nat:=l.findIdx? fun u=>decide (u.id=id)
def unt0:Unt:=⟨0,0,0,(0,0),0,0,0,0,0⟩
theorem zw4{l:List Unt}{id:Int}{i:Nat}(h:zi2 l id=some i):∃hi:i<l.length,l[i].id=id:=by
 unfold zi2 at h
 rw[List.findIdx?_eq_some_iff_getElem]at h
 obtain⟨h1,h2,_⟩:=h
 exact⟨h1,of_decide_eq_true h2⟩
theorem zw5{l:List Unt}{id:Int}(h:zi2 l id=none):∀u∈l,u.id≠id:=by
 unfold zi2 at h
 rw[List.findIdx?_eq_none_iff]at h
 exact fun u hu=>of_decide_eq_false (h u hu)
theorem ym9{l:List Unt}(hr:yh l){id:Int}{i:Nat}(hi:i<l.length)(e:l[i].id=id):zi2 l id=some i:=by
 cases h:zi2 l id with
 |none=>exact absurd e (zw5 h _ (List.getElem_mem hi))
 |some k=>
  obtain⟨hk,e2⟩:=zw4 h
  by_cases h1:k<i
  ·have:=je hr h1 hi;omega
  ·by_cases h2:i<k
   ·have:=je hr h2 hk;omega
   ·rw[show k=i by omega]
def uAt(w:Wld)(id:Int):Unt:=match zi2 w.U id with|none=>unt0|some i=>w.U.getD i unt0
def askE(w:Wld)(P id:Int):Int:=match zi2 w.U id with|none=>3|some i=>if(w.U.getD i unt0).owner=P then(if(w.U.getD i unt0).inn=0 then 0 else 9)else 6
def rstU(u:Unt):Unt:={u with goal:=-1,next:=-1,stuck:=0,state:=0}
def setU(l:List Int)(g:Unt->Unt)(U:List Unt):List Unt:=U.map fun u=>if u.id∈l then g u else u
def stW(w:Wld)(c:Cmd):Wld:={w with U:=setU c.U rstU w.U}
def stE(w:Wld)(c:Cmd):Int:=allE (askE w c.P) c.U
theorem yl6{α:Type}{f:α->List AV}{k:Nat}(hf:∀x,(f x).length=k){U:List α}{i:Nat}(hi:i<U.length)(x:α)(J:List AV):zo ((rws f U).flatten++J) (i*k) (f x)=(rws f (U.set i x)).flatten++J:=by
 have:=zbo (j:=0) (ys:=f x) (L:=J) (x':=x) hf hi (by rw[hf];omega) (by
  unfold zo
  rw[hf x,List.take_zero,List.nil_append,Nat.zero_add,List.drop_of_length_le (by rw[hf];exact Nat.le_refl _),List.append_nil])
 rw[Nat.add_zero]at this
 exact this
end Go.V
namespace Go.V
section
variable {P:Program} {c:Cfg} {st:Store}
structure SrcOK(P:Program)(st:Store)(k m:Nat)(x:AV)(xs:List AV):Prop where
  out:∀(Oth M:Nat->Nat->Prop) (w:World) (xv:Value),StoreOK st Oth M w->VRel w (fun b o=>M b o\/Oth b o) x xv->
    (Builtin.lenOf xv).run P w=.ok m w/\∃new:Array Value,Reads w (fun b o=>M b o\/Oth b o) xs new.toList/\(∀v∈new.toList,yd v=true)/\new.size=m*k/\∀w',w'.heap=w.heap->(Builtin.firstCells k m xv).run P w'=.ok new w'
theorem SrcOK.obj{k m o b cp:Nat}{l:List AV}(ho:st.obj b=some (.cells l))(hl:o+m*k<=l.length)(h1:∀y∈(l.drop o).take (m*k),y.one=true):SrcOK P st k m (.s (.slice (some ⟨b,o,none⟩) m cp)) ((l.drop o).take (m*k)):=by
  refine⟨fun Oth M w xv sto hxv=>?_⟩
  have hxv:=VRel.eq_s hxv
  subst hxv
  obtain⟨cs,e,fr,hb,_,hlen,hrel⟩:=(sto.obj b _ ho).1
  have hreads:Reads w (fun b o=>M b o\/Oth b o) ((l.drop o).take (m*k)) ((List.range' 0 (m*k)).map fun i=>cs.getD (o+i) undef):=by
    refine⟨by simp;omega,fun i x y hx hy=>?_⟩
    have hi:i<m*k:=by
      have:=(List.getElem?_eq_some_iff.1 hx).1
      simp at this;omega
    rw[List.getElem?_take_of_lt hi,List.getElem?_drop]at hx
    simp[hi]at hy
    subst hy
    refine hrel (o+i) x _ hx ?_
    rw[Array.getElem?_eq_getElem (by omega)]
    simp[show o+i<cs.size by omega]
  refine⟨by simp[Builtin.lenOf],((List.range' 0 (m*k)).map fun i=>cs.getD (o+i) undef).toArray,by simpa using hreads,by simpa using zkv hreads h1,by simp,fun w' hw=>?_⟩
  have:=qa (P:=P) ⟨b,o,none⟩ w' (fun i=>cs.getD (o+i) undef) (m*k) 0 #[] (fun p hp0 hp=>by
    rw[j5,ze0 hw]
    simp only[World.cell?,hb]
    have:o+p<cs.size:=by omega
    simp[this])
  simp only[Builtin.firstCells,loadCells]
  simpa using this
end
section
variable {P:Program} {c:Cfg} {st:Store}
theorem ycp{e:TypeId}{ie:TI}(hie:c.I e=some ie){a:Option Addr}{x:AV}{m:Nat}{xs:List AV}(hx:SrcOK P st ie.size m x xs)(hroom:room m ie.bytes)(hne:0<m){K:AV->Store->Prop}
    (h2:∀b' cap',Fresh st b'->m<=cap'->cap'<=9223372036854775807->K (.s (.slice (some ⟨b',0,none⟩) m cap')) (st.setObj b' (.cells (xs++List.replicate ((cap'-m)*ie.size) .any)))):
    AppX P c st e (.s (.slice a 0 0)) x K:=by
  refine⟨⟨ie,hie⟩,fun ie' hie' Oth M w sv xv argTypes ty args t sto hs hxv hat ht1 hu hti h0 h1'=>?_⟩
  rw[hie]at hie'
  cases hie'
  have hs:=VRel.eq_s hs
  subst hs
  have A:AppArgs P c argTypes args t e ie a 0 0 xv:=⟨hat,ht1,hu,hti,h0,h1'⟩
  obtain⟨hl1,new,hnew,hone,hnsz,hfc⟩:=hx.out Oth M w xv sto hxv
  obtain⟨newCap,rest,g1,g0,g2,g3⟩:=jz (old:=#[]) ty A hl1 (hfc w.drew rfl) (by cases a<;>simp[Builtin.firstCells,loadCells,loadCellsFrom]) (by omega) (by simpa using hroom)
  have gd:Grow w w.drew:=Grow.drew w
  have sto1:=sto.grow gd
  obtain⟨f1,f2,f3⟩:=xf sto1 (#[]++new++rest) e (l:=xs++List.replicate rest.size .any) (by
    rw[Array.toList_append,Array.toList_append]
    refine((show Reads w _ xs ([]++new.toList)from hnew).append ⟨by simp,fun i x y hx hy=>?_⟩).keep (gd.keeps _)
    rw[List.getElem?_replicate]at hx
    split at hx
    · cases hx;exact .any _
    · cases hx)
  rw[g2]at f2
  simp only[Nat.zero_add]at g1 g3 f2
  exact⟨_,_,g3,_,_,_,h2 _ newCap f1 g1 g0,.s _,f2,(gd.chg M).trans f3⟩
end
end Go.V
namespace Go.V
section
variable {α:Type} {f:α->List AV} {k:Nat}
end
instance(a b:Bld):Decidable (zg1 a b):=inferInstanceAs (Decidable (_/\_))
def bdB(w:Wld)(c:Cmd):Bld:=⟨w.next,c.P,c.T.tmod w.G.W,c.T.tdiv w.G.W,c.W,c.H⟩
open Classical in
noncomputable def putE(g:Gnd)(l:List Bld)(b:Bld):Int:=if¬onP g b then 3 else if∃x∈l,zg1 x b then 12 else if¬zjz g b then 5 else if 256<=l.length then 4 else 0
def yt1(w:Wld)(b:Bld):Prop:=∃t:Nat,((t:Int)<w.G.W*w.G.H/\hasP w.G b t)/\∃u∈w.U,u.inn=0/\hitP w.G t u.pos (kRad u.kind)
open Classical in
noncomputable def bdE(w:Wld)(c:Cmd):Int:=if¬(0<=c.T/\c.T<w.G.W*w.G.H)then 3 else if 1099511627776<=w.next then 4 else if putE w.G w.B (bdB w c)=0 then(if yt1 w (bdB w c)then 5 else 0)else putE w.G w.B (bdB w c)
def bdW(w:Wld)(c:Cmd):Wld:={w with B:=w.B++[bdB w c],next:=w.next+1}
def bld0:Bld:=⟨0,0,0,0,0,0⟩
def yua(l:List Bld)(id:Int):Option Nat:=l.findIdx? fun b=>decide (b.id=id)
def drE(w:Wld)(c:Cmd):Int:=match yua w.B c.N with|none=>3|some i=>if(w.B.getD i bld0).owner=c.P then 0 else 6
def drW(w:Wld)(c:Cmd):Wld:=match yua w.B c.N with|none=>w|some i=>{w with B:=w.B.eraseIdx i}
end Go.V
namespace Go.V
end Go.V
namespace Go.V
def zb6(m r:Int):Prop:=0<=r/\r<=9223372036854775807/\r*r<=m/\(r=9223372036854775807\/m<(r+1)*(r+1))
theorem zrr{m r r':Int}(h:zb6 m r)(h':zb6 m r'):r=r':=by
 obtain⟨h0,h1,h2,h3⟩:=h
 obtain⟨g0,g1,g2,g3⟩:=h'
 have a:¬r<r':=fun hlt=>by
  rcases h3 with h3|h3
  ·omega
  ·have:=Int.mul_le_mul (show r+1<=r' by omega) (show r+1<=r' by omega) (by omega) g0
   omega
 have b:¬r'<r:=fun hlt=>by
  rcases g3 with h3|h3
  ·omega
  ·have:=Int.mul_le_mul (show r'+1<=r by omega) (show r'+1<=r by omega) (by omega) h0
   omega
 omega
def farP(p q:Vc):Prop:=17180131329<=sqr (vsub p q)
instance(p q:Vc):Decidable (farP p q):=inferInstanceAs (Decidable (_<=_))
def carE(w:Wld)(P N:Int):Int:=if askE w P N=0 then(if zbj (uAt w N).kind=0 then 7 else 0)else askE w P N
def yuw(x u:Unt):Int:=if 0<zbj u.kind then 7 else if farP u.pos x.pos then 8 else 0
def ldA(w:Wld)(P N id:Int):Int:=if askE w P id=0 then yuw (uAt w N) (uAt w id)else askE w P id
def ldE(w:Wld)(c:Cmd):Int:=if carE w c.P c.N=0 then(if allE (ldA w c.P c.N) c.U=0 then(if zbj (uAt w c.N).kind<((inOf w.U c.N).length:Int)+(c.U.length:Int)then 4 else 0)else allE (ldA w c.P c.N) c.U)else carE w c.P c.N
def ldU(n:Int)(u:Unt):Unt:={u with pos:=(0,0),goal:=-1,next:=-1,stuck:=0,inn:=n,state:=0}
def ldW(w:Wld)(c:Cmd):Wld:={w with U:=setU c.U (ldU c.N) w.U}
theorem zz1{n:Int}{q m:Nat}(h0:0<=n)(h1:n<2^m)(h2:n+q*2^m<18446744073709551616):q9 .or .u64 (q*2^m) n=q*2^m+n:=by
 obtain⟨a,rfl⟩:=Int.eq_ofNat_of_zero_le h0
 have e:((q:Int)*2^m)=((q*2^m:Nat):Int):=by simp
 have h1':a<2^m:=by exact_mod_cast h1
 rw[e]at h2⊢
 have h3:a+q*2^m<18446744073709551616:=by omega
 rw[(zji (q*2^m) a (by omega) (by omega)).2,Nat.or_comm,yn8 a q m h1',ye (by omega) (by omega)]
 simp
 omega
theorem shl1{k:Nat}(hk:k<=62):IntKind.u64.wrap (1*2^(min ((k:Int)).toNat IntKind.u64.bits))=2^k:=by
 have:(min ((k:Int)).toNat IntKind.u64.bits)=k:=by
  show min ((k:Int)).toNat 64=k
  omega
 rw[this,Int.one_mul]
 have h:(2:Int)^k<=2^62:=by exact_mod_cast Nat.pow_le_pow_right (by decide) hk
 have h0:(0:Int)<2^k:=Int.pow_pos (by decide)
 have h2:(2:Int)^62=4611686018427387904:=by decide
 exact ye (by omega) (by omega)
def zgh(m r:Int)(k:Nat):Prop:=∃q:Nat,r=q*2^k/\r+2^k<=9223372036854775808/\r*r<=m/\(m<(r+2^k)*(r+2^k)\/r+2^k=9223372036854775808)
theorem zn9{m:Int}(hm:0<=m):zgh m 0 63:=⟨0,by simp,by decide,by simpa using hm,.inr (by decide)⟩
theorem zvl{m r:Int}(h:zgh m r 0):zb6 m r:=by
 obtain⟨q,e,h1,h2,h3⟩:=h
 have e1:(2:Int)^0=1:=rfl
 rw[e1]at h1 h3 e
 exact⟨by omega,by omega,h2,h3.symm.imp (fun h=>by omega) id⟩
theorem zvm{m r:Int}{k:Nat}(h:zgh m r (k+1)):q9 .or .u64 r (2^k)=r+2^k/\0<=r/\(0:Int)<2^k/\r+2^k<9223372036854775808:=by
 obtain⟨q,e,h1,h2,h3⟩:=h
 have h0:(0:Int)<2^k:=Int.pow_pos (by decide)
 have e2:(2:Int)^(k+1)=2*2^k:=by rw[Int.pow_succ,Int.mul_comm]
 have hr:0<=r:=by rw[e];exact Int.mul_nonneg (by omega) (by omega)
 rw[e2]at h1
 refine⟨?_,hr,h0,by omega⟩
 rw[e]
 refine zz1 (by omega) (by rw[e2];omega) ?_
 rw[<-e];omega
theorem zy7{m r:Int}{k:Nat}(h:zgh m r (k+1))(hn:m<(r+2^k)*(r+2^k)):zgh m r k:=by
 obtain⟨q,e,h1,h2,h3⟩:=h
 have e2:(2:Int)^(k+1)=2*2^k:=by rw[Int.pow_succ,Int.mul_comm]
 have h0:(0:Int)<2^k:=Int.pow_pos (by decide)
 rw[e2]at h1
 refine⟨2*q,?_,by omega,h2,.inl hn⟩
 rw[e,e2]
 push_cast
 rw[<-Int.mul_assoc,Int.mul_comm (q:Int) 2]
theorem zvk{m r:Int}{k:Nat}(h:zgh m r (k+1))(hn:(r+2^k)*(r+2^k)<=m):zgh m (r+2^k) k:=by
 obtain⟨q,e,h1,h2,h3⟩:=h
 have e2:(2:Int)^(k+1)=2*2^k:=by rw[Int.pow_succ,Int.mul_comm]
 have h0:(0:Int)<2^k:=Int.pow_pos (by decide)
 rw[e2]at h1 h3
 have e3:r+2^k+2^k=r+2*2^k:=by omega
 refine⟨2*q+1,?_,by omega,hn,by rw[e3];exact h3⟩
 rw[e,e2]
 push_cast
 rw[Int.add_mul,Int.one_mul,<-Int.mul_assoc,Int.mul_comm (q:Int) 2]
def zh8(m low high:Int):Prop:=0<=low/\low<=high/\high<=9223372036854775807/\low*low<=m/\(m<(high+1)*(high+1)\/high=9223372036854775807)
theorem zoa{m:Int}(hm:0<=m):zh8 m 0 9223372036854775807:=⟨by decide,by decide,by decide,by simpa using hm,.inr rfl⟩
theorem zvn{m l h:Int}(hh:zh8 m l h)(h1:¬l<h):zb6 m l:=by
 obtain⟨g0,g1,g2,g3,g4⟩:=hh
 have:h=l:=by omega
 subst this
 exact⟨g0,g2,g3,g4.symm⟩
theorem zy8{m l h r:Int}(hh:zh8 m l h)(h1:l<r)(h2:r<=h)(h3:r*r<=m):zh8 m r h:=by
 obtain⟨g0,g1,g2,g3,g4⟩:=hh
 exact⟨by omega,h2,g2,h3,g4⟩
theorem zy9{m l h r:Int}(hh:zh8 m l h)(h1:l<r)(h2:r<=h)(h3:m<r*r):zh8 m l (r-1):=by
 obtain⟨g0,g1,g2,g3,g4⟩:=hh
 exact⟨g0,by omega,by omega,g3,.inl (by rw[Int.sub_add_cancel];exact h3)⟩
end Go.V
namespace Go.V
def cenV(g:Gnd)(t:Nat):Vc:=(tx g t+32768,ty g t+32768)
def yn2(w:Wld)(k tile:Int)(n:Nat):List Nat:=ytn w.G (zl w.G w.B (kCls k) (yy k)) (yy k) tile n
open Classical in
noncomputable def outF(w:Wld)(u:Unt)(tile:Int):Option Nat:=(yn2 w u.kind tile 64).find? fun t=>decide (yv w u.id u.kind (cenV w.G t))
def unlU(u:Unt)(p:Vc):Unt:={u with pos:=p,inn:=0}
noncomputable def unl(tile:Int):List Int->Wld->Option Wld
 |[],w=>some w
 |id::l,w=>match zi2 w.U id with
  |none=>none
  |some i=>match outF w (w.U.getD i unt0) tile with
   |none=>none
   |some t=>unl tile l {w with U:=w.U.set i (unlU (w.U.getD i unt0) (cenV w.G t))}
open Classical in
noncomputable def ulE(w:Wld)(c:Cmd):Int:=
 if carE w c.P c.N=0 then
  (if 0<=c.T/\c.T<w.G.W*w.G.H then
   (if farP (cenV w.G c.T.toNat) (uAt w c.N).pos then 8 else(match unl c.T (inOf w.U c.N) w with|none=>5|some _=>0))
  else 3)
 else carE w c.P c.N
noncomputable def ulW(w:Wld)(c:Cmd):Wld:=(unl c.T (inOf w.U c.N) w).getD w
def entP(L:List Ent)(u:Unt):List Ent:=if u.inn=0 then yn L u.id++[(u.id,u.pos)]else yn L u.id
theorem zrg{w:Wld}{L:List Ent}(hF:zab w L)(hr:yh w.U){i:Nat}(hi:i<w.U.length){u:Unt}(hid:w.U[i].id=u.id):zab {w with U:=w.U.set i u} (entP L u):=by
 have old:∀e,e∈yn L u.id↔∃j,∃hj:j<w.U.length,j≠i/\w.U[j].inn=0/\e=(w.U[j].id,w.U[j].pos):=fun e=>by
  rw[mem_dropId,hF e]
  constructor
  ·rintro⟨⟨x,hx,h0,rfl⟩,hne⟩
   obtain⟨j,hj,rfl⟩:=List.getElem_of_mem hx
   exact⟨j,hj,fun e=>hne (by subst e;exact hid),h0,rfl⟩
  ·rintro⟨j,hj,hji,h0,rfl⟩
   refine⟨⟨w.U[j],List.getElem_mem hj,h0,rfl⟩,fun e=>hji ?_⟩
   have e:w.U[j].id=u.id:=e
   by_cases h1:j<i
   ·have:=xe hr h1 hi;omega
   ·by_cases h2:i<j
    ·have:=xe hr h2 hj;omega
    ·omega
 intro e
 have key:(∃y∈w.U.set i u,y.inn=0/\e=(y.id,y.pos))↔(u.inn=0/\e=(u.id,u.pos))\/∃j,∃hj:j<w.U.length,j≠i/\w.U[j].inn=0/\e=(w.U[j].id,w.U[j].pos):=by
  constructor
  ·rintro⟨y,hy,h0,he⟩
   obtain⟨j,hj,rfl⟩:=List.getElem_of_mem hy
   rw[List.length_set]at hj
   rw[List.getElem_set]at h0 he
   split at h0
   ·rename_i hh
    rw[if_pos hh]at he
    exact .inl ⟨h0,he⟩
   ·rename_i hh
    rw[if_neg hh]at he
    exact .inr ⟨j,hj,Ne.symm hh,h0,he⟩
  ·rintro(⟨h0,he⟩|⟨j,hj,hji,h0,he⟩)
   ·exact⟨u,List.mem_set hi u,h0,he⟩
   ·refine⟨w.U[j],?_,h0,he⟩
    have hj2:j<(w.U.set i u).length:=by rw[List.length_set];exact hj
    have:(w.U.set i u)[j]=w.U[j]:=by rw[List.getElem_set,if_neg (Ne.symm hji)]
    rw[<-this]
    exact List.getElem_mem hj2
 show e∈entP L u↔∃y∈w.U.set i u,y.inn=0/\e=(y.id,y.pos)
 rw[key]
 unfold entP
 split
 ·rename_i h0
  rw[List.mem_append,old,List.mem_singleton]
  constructor
  ·rintro(h|h)
   ·exact .inr h
   ·exact .inl ⟨h0,h⟩
  ·rintro(h|h)
   ·exact .inr h.2
   ·exact .inl h
 ·rename_i h0
  rw[old]
  exact⟨.inr,fun h=>h.resolve_left fun hh=>h0 hh.1⟩
theorem zrh{w:Wld}{L:List Ent}(hn:(L.map (·.1)).Nodup)(hF:zab w L):L.length<=w.U.length:=by
 have:=List.Nodup.length_le_of_subset (l₂:=w.U.map (·.id)) hn (fun id hid=>by
  obtain⟨e,he,rfl⟩:=List.mem_map.1 hid
  obtain⟨u,hu,_,rfl⟩:=(hF e).1 he
  exact List.mem_map.2 ⟨u,hu,rfl⟩)
 rw[List.length_map,List.length_map]at this
 exact this
theorem zzc{U:List Unt}(hr:yh U){i:Nat}(hi:i<U.length){u:Unt}(hid:U[i].id=u.id):yh (U.set i u):=by
 intro j hj h0
 rw[List.length_set]at hj
 have:=hr j hj h0
 have id':∀k,(hk:k<U.length)->((U.set i u)[k]'(by rw[List.length_set];exact hk)).id=U[k].id:=fun k hk=>by
  rw[List.getElem_set]
  split
  ·rename_i e;subst e;exact hid.symm
  ·rfl
 rw[id' _ (by omega),id' _ hj]
 exact this
end Go.V
namespace Go.V
def mvG(g:Int)(u:Unt):Unt:={u with goal:=g,next:=-1,stuck:=0,state:=1}
def yt0(w:Wld)(c:Cmd)(k:Nat)(kd:Int):Int:=match(yn2 w kd c.T c.U.length)[k]? with|some t=>(t:Int)|none=>c.T
def mvL(w:Wld)(c:Cmd):Nat->List Unt
 |0=>w.U
 |k+1=>match zi2 w.U (c.U.getD k 0)with
  |some i=>(mvL w c k).set i (mvG (yt0 w c k (w.U.getD i unt0).kind) (w.U.getD i unt0))
  |none=>mvL w c k
def mvE(w:Wld)(c:Cmd):Int:=if 0<=c.T/\c.T<w.G.W*w.G.H then allE (askE w c.P) c.U else 3
def mvW(w:Wld)(c:Cmd):Wld:={w with U:=mvL w c c.U.length}
theorem zck{a b:Unt}(h:mvG 0 a=mvG 0 b):a.id=b.id/\a.owner=b.owner/\a.kind=b.kind/\a.pos=b.pos/\a.inn=b.inn:=by
 refine⟨?_,?_,?_,?_,?_⟩
 ·have:=congrArg Unt.id h
  exact this
 ·have:=congrArg Unt.owner h
  exact this
 ·have:=congrArg Unt.kind h
  exact this
 ·have:=congrArg Unt.pos h
  exact this
 ·have:=congrArg Unt.inn h
  exact this
end Go.V
namespace Go.V
noncomputable def aE(w:Wld)(c:Cmd):Int:=if c.K=1 then spE w c else if c.K=2 then mvE w c else if c.K=3 then stE w c else if c.K=4 then bdE w c else if c.K=5 then drE w c else if c.K=6 then ldE w c else ulE w c
noncomputable def aW(w:Wld)(c:Cmd):Wld:=if c.K=1 then spW w c else if c.K=2 then mvW w c else if c.K=3 then stW w c else if c.K=4 then bdW w c else if c.K=5 then drW w c else if c.K=6 then ldW w c else ulW w c
theorem a1{w:Wld}{c:Cmd}(h:c.K=1):aE w c=spE w c/\aW w c=spW w c:=by unfold aE aW;rw[h];exact⟨rfl,rfl⟩
theorem a2{w:Wld}{c:Cmd}(h:c.K=2):aE w c=mvE w c/\aW w c=mvW w c:=by unfold aE aW;rw[h];exact⟨rfl,rfl⟩
theorem a3{w:Wld}{c:Cmd}(h:c.K=3):aE w c=stE w c/\aW w c=stW w c:=by unfold aE aW;rw[h];exact⟨rfl,rfl⟩
theorem a4{w:Wld}{c:Cmd}(h:c.K=4):aE w c=bdE w c/\aW w c=bdW w c:=by unfold aE aW;rw[h];exact⟨rfl,rfl⟩
theorem a5{w:Wld}{c:Cmd}(h:c.K=5):aE w c=drE w c/\aW w c=drW w c:=by unfold aE aW;rw[h];exact⟨rfl,rfl⟩
theorem a6{w:Wld}{c:Cmd}(h:c.K=6):aE w c=ldE w c/\aW w c=ldW w c:=by unfold aE aW;rw[h];exact⟨rfl,rfl⟩
theorem a7{w:Wld}{c:Cmd}(h:c.K=7):aE w c=ulE w c/\aW w c=ulW w c:=by unfold aE aW;rw[h];exact⟨rfl,rfl⟩
end Go.V
namespace Go.V
instance(g:Gnd)(t:Nat)(p:Vc)(r:Int):Decidable (hitP g t p r):=by unfold hitP;infer_instance
instance(g:Gnd)(b:Bld):Decidable (zjz g b):=by unfold zjz;infer_instance
instance(g:Gnd)(b:Bld):Decidable (onP g b):=by unfold onP;infer_instance
instance(b:Bld):Decidable (bldP b):=by unfold bldP;infer_instance
instance(a b:Bld):Decidable (zg1 a b):=by unfold zg1;infer_instance
instance(l:List Bld):Decidable (zoc l):=by unfold zoc;infer_instance
instance(l:List Bld):Decidable (zup l):=by unfold zup;infer_instance
instance(g:Gnd):Decidable (gndP g):=by unfold gndP;infer_instance
instance(g:Gnd)(l:List Bld):Decidable (zqc g l):=by unfold zqc;infer_instance
instance(g:Gnd)(l:List Bld)(c:Int)(p:Vc)(r:Int):Decidable (zg5 g l c p r):=by unfold zg5;infer_instance
instance(w:Wld)(id k:Int)(p:Vc):Decidable (yv w id k p):=by unfold yv;infer_instance
instance(k:Int):Decidable (zca k):=by unfold zca;infer_instance
instance(g:Gnd)(t:Int):Decidable (zbm g t):=by unfold zbm;infer_instance
instance(w:Wld)(u:Unt):Decidable (untP w u):=by unfold untP;infer_instance
instance(w:Wld):Decidable (zo9 w):=by unfold zo9;infer_instance
instance(l:List Unt):Decidable (yh l):=by unfold yh;infer_instance
instance(w:Wld):Decidable (zdv w):=by unfold zdv;infer_instance
instance(w:Wld)(u:Unt):Decidable (zdl w u):=by unfold zdl;infer_instance
instance(w:Wld):Decidable (mayP w):=by unfold mayP;infer_instance
instance(x y:Int):Decidable (xx x y):=by unfold xx;infer_instance
instance(w:Wld):Decidable (ysq w):=by unfold ysq;infer_instance
end Go.V
namespace Go.V
def vadd(a b:Vc):Vc:=(fadd a.1 b.1,fadd a.2 b.2)
def vnrm(v:Vc):Vc:=(nrm v.1,nrm v.2)
def wj(v:Vc)(k:Nat):Vc:=(v.1.tdiv (2^k:Nat),v.2.tdiv (2^k:Nat))
def yma(m:Int):Nat->Int->Int
 |0,r=>r
 |b+1,r=>yma m b (if(r+(2^b:Nat))*(r+(2^b:Nat))<=m then r+(2^b:Nat)else r)
def vd(m:Int):Int:=yma m 63 0
theorem yl9{m:Int}(hm:0<=m):∀(b:Nat) (r:Int),0<=r->r*r<=m->(r+(2^b:Nat)=9223372036854775808\/m<(r+(2^b:Nat))*(r+(2^b:Nat)))->r+(2^b:Nat)<=9223372036854775808->zb6 m (yma m b r):=by
 intro b
 induction b with
 |zero=>
  intro r h0 h1 h2 h3
  refine⟨h0,?_,h1,?_⟩
  ·simp only[Nat.pow_zero]at h3
   show r<=_
   omega
  ·show r=_\/_
   simp only[Nat.pow_zero]at h2
   rcases h2 with h2|h2
   ·exact .inl (by omega)
   ·exact .inr h2
 |succ b ih=>
  intro r h0 h1 h2 h3
  have hp:(2^(b+1):Nat)=2^b+2^b:=by rw[Nat.pow_succ];omega
  have hq:0<2^b:=Nat.pow_pos (by decide)
  rw[hp]at h2 h3
  generalize hB:2^b=B at*
  show zb6 m (yma m b (if _ then _ else _))
  rw[hB]
  split
  ·rename_i hle
   refine ih (r+(B:Nat)) (by omega) hle ?_ (by omega)
   rw[Int.add_assoc,show((B:Nat):Int)+(B:Nat)=((B+B:Nat):Int) by omega]
   exact h2
  ·rename_i hle
   exact ih r h0 h1 (.inr (by omega)) (by omega)
theorem zbq{m:Int}(hm:0<=m):zb6 m (vd m):=yl9 hm 63 0 (by decide) (by simpa using hm) (.inl (by decide)) (by decide)
theorem zh7{m r:Int}(hm:0<=m)(h:zb6 m r):r=vd m:=zrr h (zbq hm)
def cutC(c most long:Int):Int:=if c<0 then -((-c)*most/long)else c*most/long
def qj(v:Vc)(most:Int):Vc:=
 if vd (sqr v)<=max most 0 then vnrm v else(cutC (nrm v.1) (max most 0) (vd (sqr v)),cutC (nrm v.2) (max most 0) (vd (sqr v)))
def xw(p q:Vc)(speed:Int):Vc:=qj (vsub q p) speed
def we(p:Vc)(r:Int)(q:Vc):Vc:=
 if near p q r then qj (if vsub p q=(0,0)then(65536,0)else vsub p q) (r-vd (sqr (vsub p q)))else(0,0)
instance(w:Wld)(id k:Int)(p:Vc):Decidable (yv w id k p):=by unfold yv zg5;infer_instance
def tryL(w:Wld)(u:Unt)(v:Vc):Nat->Nat->Option (Nat×Vc)
 |0,_=>none
 |n+1,k=>if wj v k=(0,0)then none else if yv w u.id u.kind (vadd u.pos (wj v k))then some (k,vadd u.pos (wj v k))else tryL w u v n (k+1)
def putU(w:Wld)(u:Unt):Wld:={w with U:=w.U.map fun x=>if x.id=u.id then u else x}
def tryK(w:Wld)(u:Unt)(v:Vc):Int:=match tryL w u (vnrm v) 5 0 with|none=>5|some (k,_)=>(k:Int)
def tryW(w:Wld)(u:Unt)(v:Vc):Wld:=match tryL w u (vnrm v) 5 0 with|none=>w|some (_,p)=>putU w {u with pos:=p}
def zcu(w:Wld)(u:Unt):Vc:=w.U.foldl (fun v x=>if x.inn=0/\x.id≠u.id then vadd v (we u.pos (kRad u.kind+kRad x.kind+16384) x.pos)else v) (0,0)
def zg3(w:Wld)(u:Unt):Wld:=tryW w u (qj (zcu w u) ((yp u.kind).tdiv 4))
def endU(s:Int)(u:Unt):Unt:={u with goal:=-1,next:=-1,stuck:=0,state:=s}
def okU(w:Wld)(u:Unt)(t:Nat):Bool:=zl w.G w.B (kCls u.kind) (yy u.kind) t
def xq(w:Wld)(u:Unt)(own:Nat):Bool:=
 decide (u.next=-1)||decide (u.pos=cenV w.G u.next.toNat)|| !okU w u u.next.toNat||(decide (u.next≠own)&& !(vh w.G own).contains u.next)
noncomputable def wg(w:Wld)(u:Unt)(own:Nat):Int:=
 if u.pos≠cenV w.G own then own else
  (let way:=wayF w.G (okU w u) (kCls u.kind) (farF w.G (okU w u) (kCls u.kind) u.goal.toNat) own
   if way<0 then -1 else besN w.G own way.toNat)
def ww(w:Wld)(u:Unt):Wld:=
 if tryK (putU w {u with stuck:=0}) {u with stuck:=0} (xw u.pos (cenV w.G u.next.toNat) (yp u.kind))<5 then tryW (putU w {u with stuck:=0}) {u with stuck:=0} (xw u.pos (cenV w.G u.next.toNat) (yp u.kind))
 else if u.stuck+1=8 then putU w (endU 4 u)else putU w {u with stuck:=u.stuck+1,next:=-1}
noncomputable def zbu(w:Wld)(u:Unt):Wld:=
 if u.pos=cenV w.G u.goal.toNat then putU w (endU 2 u)
 else if xq w u (ql w.G u.pos)then
  (if wg w u (ql w.G u.pos)<0 then putU w (endU 3 u)else ww w {u with next:=wg w u (ql w.G u.pos)})
 else ww w u
noncomputable def j9(w:Wld)(u:Unt):Wld:=if u.goal=-1 then zg3 w u else zbu w u
end Go.V
namespace Go.V
theorem zyn(x y:Int):(x-y)*(x-y)=(y-x)*(y-x):=by
 have:y-x=-(x-y):=by omega
 rw[this,Int.neg_mul_neg]
theorem zxl{g:Gnd}(hg:gndP g){l:List Bld}{c c':Int}{p q:Vc}{k k':Int}(hp:zg5 g l c p (kRad k))(hq:zg5 g l c' q (kRad k')):zam p (kRad k) q (kRad k')=zam q (kRad k') p (kRad k):=by
 have b1:=zud hg hp
 have b2:=zud hg hq
 have r1:=zq8 k
 have r2:=zq8 k'
 unfold zam
 rw[zfu (by omega) (by omega) (by omega) (by omega) (by omega),zfu (by omega) (by omega) (by omega) (by omega) (by omega),zyn p.1,zyn p.2,Int.add_comm (kRad k)]
theorem zld{w w':Wld}{id k:Int}{p:Vc}(hG:w'.G=w.G)(hB:w'.B=w.B)(h:∀v∈w'.U,v.inn=0->v.id≠id->∃x∈w.U,x.inn=0/\x.id≠id/\x.pos=v.pos/\x.kind=v.kind)(hc:yv w id k p):yv w' id k p:=by
 refine⟨by rw[hG,hB];exact hc.1,fun v hv h0 hid=>?_⟩
 obtain⟨x,hx,e1,e2,e3,e4⟩:=h v hv h0 hid
 rw[<-e3,<-e4]
 exact hc.2 x hx e1 e2
theorem zk2(l:List Unt)(id:Int):inOf l id=((l.map fun u=>(u.inn,u.id)).filter fun x=>x.1==id).map (·.2):=by
 unfold inOf
 rw[List.filter_map,List.map_map]
 rfl
theorem zwj{U U':List Unt}(hl:U'.length=U.length)(h:∀j,(hj:j<U.length)->(U'[j]'(by omega)).inn=U[j].inn/\(U'[j]'(by omega)).id=U[j].id)(id:Int):inOf U' id=inOf U id:=by
 rw[zk2,zk2]
 have:(U'.map fun u=>(u.inn,u.id))=U.map fun u=>(u.inn,u.id):=by
  apply List.ext_getElem (by rw[List.length_map,List.length_map];exact hl)
  intro j h1 h2
  rw[List.length_map]at h1 h2
  rw[List.getElem_map,List.getElem_map,(h j h2).1,(h j h2).2]
 rw[this]
theorem zib{U U':List Unt}(hl:U'.length=U.length)(h:∀j,(hj:j<U.length)->(U'[j]'(by omega)).id=U[j].id)(hr:yh U):yh U':=by
 intro j hj h0
 rw[hl]at hj
 have:=hr j hj h0
 rw[h _ (by omega),h _ hj]
 exact this
theorem zv9{w:Wld}(hm:mayP w){U:List Unt}(hl:U.length=w.U.length)(h1:∀j,(hj:j<w.U.length)->mvG 0 (U[j]'(by omega))=mvG 0 w.U[j])(h2:∀j,(hj:j<w.U.length)->w.U[j].inn≠0->U[j]'(by omega)=w.U[j])(h3:∀j,(hj:j<w.U.length)->untP w (U[j]'(by omega))):mayP {w with U:=U}:=by
 obtain⟨⟨hh,hr,hu⟩,hc,hd⟩:=hm
 have same:=fun j hj=>zck (h1 j hj)
 have back:∀v∈U,∃j,∃hj:j<w.U.length,v=U[j]'(by omega):=fun v hv=>by
  obtain⟨j,hj,rfl⟩:=List.getElem_of_mem hv
  exact⟨j,by omega,rfl⟩
 have hin:=zwj hl (fun j hj=>⟨(same j hj).2.2.2.2,(same j hj).1⟩)
 refine⟨⟨⟨hh.1,⟨hh.2.1.1,hh.2.1.2.1,by show U.length<=_;rw[hl];exact hh.2.1.2.2⟩,hh.2.2⟩,zib hl (fun j hj=>(same j hj).1) hr,fun v hv=>?_⟩,fun v hv h0=>?_,fun v hv h0=>?_⟩
 ·obtain⟨j,hj,rfl⟩:=back v hv
  refine⟨h3 j hj,fun b hb=>?_⟩
  rw[(same j hj).1]
  exact(hu _ (List.getElem_mem hj)).2 b hb
 ·obtain⟨j,hj,rfl⟩:=back v hv
  obtain⟨e1,_,e3,e4,e5⟩:=same j hj
  rw[e1,e3,e4]
  refine zld (w:=w) rfl rfl (fun x hx hx0 hxi=>?_) (hc _ (List.getElem_mem hj) (by rw[<-e5];exact h0))
  obtain⟨k,hk,rfl⟩:=back x hx
  obtain⟨f1,_,f3,f4,f5⟩:=same k hk
  exact⟨_,List.getElem_mem hk,by rw[<-f5];exact hx0,by rw[<-f1];exact hxi,f4.symm,f3.symm⟩
 ·obtain⟨j,hj,rfl⟩:=back v hv
  have e5:=(same j hj).2.2.2.2
  rw[e5]at h0
  rw[h2 j hj h0]
  obtain⟨x,hx,g1,g2,g3,g4⟩:=hd _ (List.getElem_mem hj) h0
  obtain⟨k,hk,rfl⟩:=List.getElem_of_mem hx
  obtain⟨f1,f2,f3,f4,f5⟩:=same k hk
  refine⟨U[k]'(by omega),List.getElem_mem _,by rw[f1];exact g1,⟨by rw[f5];exact g2.1,by rw[f2];exact g2.2⟩,?_,g4⟩
  show((inOf U _).length:Int)<=_
  rw[hin,f3]
  exact g3
theorem zk8{q:Unt->Bool}{x:Unt}(hx:q x=false):∀(U:List Unt) (i:Nat),((U.set i x).filter q).length<=(U.filter q).length
 |[],_=>Nat.le_refl _
 |a::l,0=>by
  rw[List.set_cons_zero,List.filter_cons,List.filter_cons]
  simp only[hx,Bool.false_eq_true,if_false]
  split
  ·rw[List.length_cons];omega
  ·exact Nat.le_refl _
 |a::l,i+1=>by
  rw[List.set_cons_succ,List.filter_cons,List.filter_cons]
  have:=zk8 hx l i
  split
  ·simp only[List.length_cons];omega
  ·exact this
theorem yao{w:Wld}(hm:mayP w){i:Nat}(hi:i<w.U.length){p:Vc}(hp:yv w w.U[i].id w.U[i].kind p):mayP {w with U:=w.U.set i {w.U[i]with pos:=p,inn:=0}}:=by
 obtain⟨⟨hh,hr,hu⟩,hc,hd⟩:=hm
 have hg:=hh.2.1.1
 have hl:(w.U.set i {w.U[i]with pos:=p,inn:=0}).length=w.U.length:=List.length_set
 have get:∀j,(hj:j<w.U.length)->(w.U.set i {w.U[i]with pos:=p,inn:=0})[j]'(by omega)=if i=j then{w.U[i]with pos:=p,inn:=0}else w.U[j]:=fun j hj=>List.getElem_set ..
 have back:∀v∈w.U.set i {w.U[i]with pos:=p,inn:=0},v={w.U[i]with pos:=p,inn:=0}\/∃j,∃hj:j<w.U.length,j≠i/\v=w.U[j]:=fun v hv=>by
  obtain⟨j,hj,rfl⟩:=List.getElem_of_mem hv
  rw[hl]at hj
  rw[get j hj]
  split
  ·exact .inl rfl
  ·rename_i e;exact .inr ⟨j,hj,Ne.symm e,rfl⟩
 have idne:∀j,(hj:j<w.U.length)->j≠i->w.U[j].id≠w.U[i].id:=fun j hj hne e=>by
  rcases Nat.lt_trichotomy j i with q|q|q
  ·have:=xe hr q hi;omega
  ·exact hne q
  ·have:=xe hr q hj;omega
 have hself:untP w {w.U[i]with pos:=p,inn:=0}/\∀b∈w.B,b.id≠w.U[i].id:=⟨(hu _ (List.getElem_mem hi)).1,(hu _ (List.getElem_mem hi)).2⟩
 refine⟨⟨⟨hh.1,⟨hh.2.1.1,hh.2.1.2.1,by show(w.U.set i _).length<=_;rw[hl];exact hh.2.1.2.2⟩,hh.2.2⟩,zzc hr hi rfl,fun v hv=>?_⟩,fun v hv h0=>?_,fun v hv h0=>?_⟩
 ·rcases back v hv with rfl|⟨j,hj,_,rfl⟩
  ·exact hself
  ·exact hu _ (List.getElem_mem hj)
 ·rcases back v hv with rfl|⟨j,hj,hne,rfl⟩
  ·refine zld (w:=w) rfl rfl (fun x hx hx0 hxi=>?_) hp
   rcases back x hx with rfl|⟨k,hk,_,rfl⟩
   ·exact absurd rfl hxi
   ·exact⟨_,List.getElem_mem hk,hx0,hxi,rfl,rfl⟩
  ·have hcj:=hc _ (List.getElem_mem hj) h0
   refine⟨hcj.1,fun x hx hx0 hxi=>?_⟩
   rcases back x hx with rfl|⟨k,hk,_,rfl⟩
   ·have:=hp.2 _ (List.getElem_mem hj) h0 (idne j hj hne)
    rw[zxl hg hp.1 hcj.1]at this
    exact this
   ·exact hcj.2 _ (List.getElem_mem hk) hx0 hxi
 ·rcases back v hv with rfl|⟨j,hj,hne,rfl⟩
  ·exact absurd rfl h0
  obtain⟨x,hx,g1,g2,g3,g4⟩:=hd _ (List.getElem_mem hj) h0
  obtain⟨k,hk,rfl⟩:=List.getElem_of_mem hx
  have hle:((inOf (w.U.set i {w.U[i]with pos:=p,inn:=0}) w.U[j].inn).length:Int)<=zbj w.U[k].kind:=by
   have h9:=zk8 (q:=fun u=>u.inn==w.U[j].inn) (x:={w.U[i]with pos:=p,inn:=0}) (by
    show((0:Int)==w.U[j].inn)=false
    simpa using fun e=>h0 e.symm) w.U i
   unfold inOf at g3⊢
   rw[List.length_map]at g3⊢
   omega
  by_cases e:k=i
  ·subst e
   exact⟨{w.U[k]with pos:=p,inn:=0},List.mem_set hi _,g1,⟨rfl,g2.2⟩,hle,g4⟩
  ·refine⟨w.U[k],?_,g1,g2,hle,g4⟩
   have:(w.U.set i {w.U[i]with pos:=p,inn:=0})[k]'(by omega)=w.U[k]:=by rw[get k hk,if_neg (Ne.symm e)]
   rw[<-this]
   exact List.getElem_mem _
end Go.V
namespace Go.V
theorem qw{w:Wld}(hr:yh w.U){i:Nat}(hi:i<w.U.length){u:Unt}(hid:u.id=w.U[i].id):putU w u={w with U:=w.U.set i u}:=by
 unfold putU
 congr 1
 refine List.ext_getElem (by simp) fun j h1 h2=>?_
 have hj:j<w.U.length:=by simpa using h1
 rw[List.getElem_map,List.getElem_set]
 by_cases e:i=j
 ·subst e
  rw[if_pos hid.symm,if_pos rfl]
 ·rw[if_neg e,if_neg]
  intro hx
  rcases Nat.lt_or_gt_of_ne e with h|h
  ·have:=je hr h hj;omega
  ·have:=je hr h hi;omega
theorem zil{w:Wld}(hr:yh w.U){i:Nat}(hi:i<w.U.length){u:Unt}(hid:u.id=w.U[i].id):∃h2:i<(putU w u).U.length,(putU w u).U[i]=u:=by
 rw[qw hr hi hid]
 exact⟨by simpa using hi,by simp⟩
theorem zes(w:Wld)(u:Unt):(putU w u).U.length=w.U.length:=by simp[putU]
theorem zra{w:Wld}(hr:yh w.U){i:Nat}(hi:i<w.U.length){u:Unt}(hid:u.id=w.U[i].id){j:Nat}(hj:j<w.U.length)(hij:j≠i):(putU w u).U[j]'(by rw[zes];exact hj)=w.U[j]:=by
 have h:=qw hr hi hid
 have:(putU w u).U=w.U.set i u:=by rw[h]
 simp only[this]
 rw[List.getElem_set,if_neg (Ne.symm hij)]
theorem zfx{w:Wld}(hm:mayP w){i:Nat}(hi:i<w.U.length)(h0:w.U[i].inn=0){u:Unt}(h1:mvG 0 u=mvG 0 w.U[i])(h2:untP w u):mayP (putU w u):=by
 have hid:u.id=w.U[i].id:=(zck h1).1
 rw[qw hm.1.2.1 hi hid]
 have get:∀j,(hj:j<w.U.length)->(w.U.set i u)[j]'(by simpa using hj)=if i=j then u else w.U[j]:=fun j hj=>List.getElem_set ..
 refine zv9 hm (by simp) (fun j hj=>?_) (fun j hj hn=>?_) (fun j hj=>?_)
 ·rw[get j hj]
  split
  ·rename_i e;subst e;exact h1
  ·rfl
 ·rw[get j hj]
  split
  ·rename_i e;subst e;exact absurd h0 hn
  ·rfl
 ·rw[get j hj]
  split
  ·exact h2
  ·exact(hm.1.2.2 _ (List.getElem_mem hj)).1
theorem zc1{w:Wld}{u:Unt}{v:Vc}:∀(n k:Nat) {r:Nat×Vc},tryL w u v n k=some r->yv w u.id u.kind r.2/\(k<=r.1/\r.1<k+n)/\r.2=vadd u.pos (wj v r.1)
 |0,k,r,h=>by cases h
 |n+1,k,r,h=>by
  unfold tryL at h
  split at h
  ·cases h
  ·split at h
   ·cases h
    exact⟨‹_›,by omega,rfl⟩
   ·obtain⟨h1,h2,h3⟩:=zc1 n (k+1) h
    exact⟨h1,by omega,h3⟩
theorem yan{w:Wld}(hm:mayP w){i:Nat}(hi:i<w.U.length)(h0:w.U[i].inn=0)(v:Vc):mayP (tryW w w.U[i] v):=by
 unfold tryW
 cases h:tryL w w.U[i] (vnrm v) 5 0 with
 |none=>exact hm
 |some r=>
  obtain⟨k,p⟩:=r
  dsimp only
  obtain⟨h1,_,_⟩:=zc1 5 0 h
  rw[qw (u:={w.U[i]with pos:=p}) hm.1.2.1 hi rfl]
  have:=yao hm hi h1
  have e:({w.U[i]with pos:=p,inn:=0}:Unt)={w.U[i]with pos:=p}:=by rw[<-h0]
  rw[e]at this
  exact this
theorem znp{w:Wld}(hm:mayP w){i:Nat}(hi:i<w.U.length):untP w w.U[i]:=(hm.1.2.2 _ (List.getElem_mem hi)).1
theorem yc7{w:Wld}{u:Unt}(h:untP w u){s:Int}(hs:s=2\/s=3\/s=4):untP w (endU s u):=by
 obtain⟨⟨a1,a2,a3⟩,_,_,_⟩:=h
 refine⟨⟨a1,a2,a3⟩,⟨.inl rfl,.inl rfl,by show(0:Int)<=0/\(0:Int)<8;omega⟩,⟨by show 0<=s/\s<=4;omega,?_⟩,fun _=>⟨rfl,rfl⟩⟩
 show s=1↔(-1:Int)≠-1
 omega
theorem zfh{w:Wld}{u:Unt}(h:untP w u)(hg:u.goal≠-1){nx st:Int}(hn:zbm w.G nx)(hs:0<=st/\st<8):untP w {u with next:=nx,stuck:=st}:=by
 obtain⟨⟨a1,a2,a3⟩,⟨b1,b2,b3⟩,c,d⟩:=h
 exact⟨⟨a1,a2,a3⟩,⟨b1,hn,hs⟩,c,fun e=>absurd e hg⟩
theorem zrn{w:Wld}(hm:mayP w){i:Nat}(hi:i<w.U.length)(h0:w.U[i].inn=0){s:Int}(hs:s=2\/s=3\/s=4){u:Unt}(hu:mvG 0 u=mvG 0 w.U[i])(hup:untP w u):mayP (putU w (endU s u)):=
 zfx hm hi h0 (by rw[<-hu];rfl) (yc7 hup hs)
theorem zt5{w:Wld}(hm:mayP w){i:Nat}(hi:i<w.U.length)(h0:w.U[i].inn=0){u:Unt}(hu:mvG 0 u=mvG 0 w.U[i])(hup:untP w u)(hg:u.goal≠-1):mayP (ww w u):=by
 have hid:u.id=w.U[i].id:=(zck hu).1
 have hin:u.inn=w.U[i].inn:=(zck hu).2.2.2.2
 unfold ww
 split
 ·have hp:untP w {u with stuck:=0}:=zfh hup hg hup.2.1.2.1 (by omega)
  have hm2:mayP (putU w {u with stuck:=0}):=zfx hm hi h0 (by rw[<-hu];rfl) hp
  obtain⟨h2,e⟩:=zil (u:={u with stuck:=0}) hm.1.2.1 hi hid
  have:=yan hm2 h2 (by rw[e];exact hin.trans h0) (xw u.pos (cenV w.G u.next.toNat) (yp u.kind))
  rw[e]at this
  exact this
 ·split
  ·exact zrn hm hi h0 (.inr (.inr rfl)) hu hup
  ·rename_i h8
   have:=hup.2.1.2.2
   exact zfx hm hi h0 (by rw[<-hu];rfl) (zfh hup hg (.inl rfl) (by omega))
theorem ztw{w:Wld}(hm:mayP w){i:Nat}(hi:i<w.U.length)(h0:w.U[i].inn=0):(0<=w.U[i].pos.1/\w.U[i].pos.1<w.G.W*65536)/\(0<=w.U[i].pos.2/\w.U[i].pos.2<w.G.H*65536):=by
 have:=zud hm.1.1.2.1.1 (hm.2.1 _ (List.getElem_mem hi) h0).1
 have:=this.1
 have:=this.2
 omega
theorem zon{w:Wld}(hm:mayP w){i:Nat}(hi:i<w.U.length)(h0:w.U[i].inn=0):ql w.G w.U[i].pos<w.G.T.length:=(zhx hm.1.1.2.1.1 (ztw hm hi h0)).2.1
theorem zhv{g:Gnd}(hg:gndP g){t:Nat}(h:t<g.T.length):zbm g (t:Int):=.inr (by have:=hg.2.2.1;omega)
theorem ynw(g:Gnd)(ok:Nat->Bool)(c:Int)(d:Nat->Int)(t:Nat):wayF g ok c d t=-1\/∃way:Nat,way<8/\wayF g ok c d t=way/\0<y9 g ok c t way:=by
 unfold wayF
 split
 ·exact .inl rfl
 ·cases h:(List.range 8).find? fun way=>decide (0<y9 g ok c t way/\0<=d (besN g t way).toNat/\y9 g ok c t way+d (besN g t way).toNat=d t)with
  |none=>exact .inl rfl
  |some way=>
   have h1:=List.mem_of_find?_eq_some h
   have h2:=List.find?_some h
   exact .inr ⟨way,by simpa using h1,rfl,(of_decide_eq_true h2).1⟩
theorem zdb{w:Wld}(hg:gndP w.G){u:Unt}{own:Nat}(ho:own<w.G.T.length):zbm w.G (wg w u own):=by
 unfold wg
 split
 ·exact zhv hg ho
 ·dsimp only
  rcases ynw w.G (okU w u) (kCls u.kind) (farF w.G (okU w u) (kCls u.kind) u.goal.toNat) own with h|⟨way,h1,h2,_⟩
  ·rw[h,if_pos (by decide)];exact .inl rfl
  ·rw[h2,if_neg (by omega)]
   rcases zuk hg (t:=own) (way:=way) h1 with h3|⟨x,h3,h4⟩
   ·rw[Int.toNat_natCast,h3];exact .inl rfl
   ·rw[Int.toNat_natCast,h3];exact zhv hg h4
theorem ymt{w:Wld}(hm:mayP w){i:Nat}(hi:i<w.U.length)(h0:w.U[i].inn=0)(hg:w.U[i].goal≠-1):mayP (zbu w w.U[i]):=by
 have hu:=znp hm hi
 unfold zbu
 split
 ·exact zrn hm hi h0 (.inl rfl) rfl hu
 ·split
  ·split
   ·exact zrn hm hi h0 (.inr (.inl rfl)) rfl hu
   ·exact zt5 hm hi h0 (u:={w.U[i]with next:=wg w w.U[i] (ql w.G w.U[i].pos)}) rfl (zfh hu hg (zdb hm.1.1.2.1.1 (zon hm hi h0)) hu.2.1.2.2) hg
  ·exact zt5 hm hi h0 rfl hu hg
theorem yms{w:Wld}(hm:mayP w){i:Nat}(hi:i<w.U.length)(h0:w.U[i].inn=0):mayP (j9 w w.U[i]):=by
 unfold j9
 split
 ·exact yan hm hi h0 _
 ·exact ymt hm hi h0 ‹_›
end Go.V
namespace Go.V
theorem yj7{a b:Int}(hb:0<=b)(h:a*a<b*b):a<b:=by
 refine Int.not_le.1 fun hle=>?_
 have:=Int.mul_le_mul hle hle hb (by omega)
 omega
theorem zhz{a b:Int}(ha:0<=a)(h:a<=b):a*a<=b*b:=Int.mul_le_mul h h ha (by omega)
theorem yun{p q:Int}(hp:0<=p)(h:p<q):p*p<q*q:=
 Int.lt_of_le_of_lt (Int.mul_le_mul_of_nonneg_left (Int.le_of_lt h) hp) (Int.mul_lt_mul_of_pos_right h (by omega))
theorem mul4(a b c d:Int):a*b*(c*d)=a*c*(b*d):=by ac_rfl
theorem yug{x y m L s a b:Int}(hx:0<=x)(hy:0<=y)(hm:0<=m)(hmL:m<L)(hs:x*x+y*y<(L+1)*(L+1))(ha:a=x*m/L)(hb:b=y*m/L):a*a+b*b<(m+1)*(m+1):=by
 have hL:0<L:=by omega
 have a1:a*L<=x*m:=by rw[ha];exact Int.ediv_mul_le _ (by omega)
 have b1:b*L<=y*m:=by rw[hb];exact Int.ediv_mul_le _ (by omega)
 have a0:0<=a:=by rw[ha];exact Int.ediv_nonneg (Int.mul_nonneg hx hm) (by omega)
 have b0:0<=b:=by rw[hb];exact Int.ediv_nonneg (Int.mul_nonneg hy hm) (by omega)
 have a2:=zhz (Int.mul_nonneg a0 (by omega:(0:Int)<=L)) a1
 have b2:=zhz (Int.mul_nonneg b0 (by omega:(0:Int)<=L)) b1
 have e1:(a*a+b*b)*(L*L)=a*L*(a*L)+b*L*(b*L):=by
  rw[Int.add_mul,mul4 a a L L,mul4 b b L L]
 have e2:x*m*(x*m)+y*m*(y*m)=(x*x+y*y)*(m*m):=by
  rw[Int.add_mul,mul4 x x m m,mul4 y y m m]
 have h1:(a*a+b*b)*(L*L)<=(x*x+y*y)*(m*m):=by rw[e1,<-e2];exact Int.add_le_add a2 b2
 refine Int.not_le.1 fun hle=>?_
 have h2:(m+1)*(m+1)*(L*L)<=(x*x+y*y)*(m*m):=Int.le_trans (Int.mul_le_mul_of_nonneg_right hle (Int.mul_nonneg (by omega) (by omega))) h1
 have h3:(x*x+y*y)*(m*m)<=((L+1)*(L+1))*(m*m):=Int.mul_le_mul_of_nonneg_right (by omega) (Int.mul_nonneg hm hm)
 have e3:(m+1)*(m+1)*(L*L)=((m+1)*L)*((m+1)*L):=mul4 ..
 have e4:((L+1)*(L+1))*(m*m)=((L+1)*m)*((L+1)*m):=mul4 ..
 have h4:((L+1)*m)*((L+1)*m)<((m+1)*L)*((m+1)*L):=by
  have k1:(L+1)*m<(m+1)*L:=by
   rw[Int.add_mul,Int.add_mul,Int.mul_comm L m];omega
  have k0:0<=(L+1)*m:=Int.mul_nonneg (by omega) hm
  exact yun k0 k1
 omega
def ji(v:Vc):Prop:=(-1125899906842624<=v.1/\v.1<=1125899906842624)/\(-1125899906842624<=v.2/\v.2<=1125899906842624)
theorem jh{v:Vc}(h:ji v):sqr v=v.1*v.1+v.2*v.2/\vnrm v=v/\0<=sqr v/\sqr v<(vd (sqr v)+1)*(vd (sqr v)+1):=by
 obtain⟨h1,h2⟩:=h
 have e:sqr v=v.1*v.1+v.2*v.2:=by unfold sqr;rw[zum (by omega),zum (by omega)]
 have p1:0<=v.1*v.1:=by rcases Int.le_total 0 v.1 with h|h;exact Int.mul_nonneg h h;rw[<-Int.neg_mul_neg];exact Int.mul_nonneg (by omega) (by omega)
 have p2:0<=v.2*v.2:=by rcases Int.le_total 0 v.2 with h|h;exact Int.mul_nonneg h h;rw[<-Int.neg_mul_neg];exact Int.mul_nonneg (by omega) (by omega)
 have b:∀x:Int,-1125899906842624<=x/\x<=1125899906842624->x*x<=1125899906842624*1125899906842624:=fun x hx=>by
  rcases Int.le_total 0 x with h|h
  ·exact zhz h hx.2
  ·rw[<-Int.neg_mul_neg];exact zhz (by omega) (by omega)
 have b1:=b _ h1
 have b2:=b _ h2
 have h0:0<=sqr v:=by omega
 refine⟨e,?_,h0,?_⟩
 ·unfold vnrm;rw[xz (by omega),xz (by omega)]
 ·obtain⟨r0,r1,r2,r3⟩:=zbq h0
  rcases r3 with r3|r3
  ·rw[r3]at r2;omega
  ·exact r3
theorem zgy(x:Int):x*x=(x.natAbs:Int)*x.natAbs:=by rw[<-Int.natCast_mul,Int.natAbs_mul_self]
theorem yr5{v:Vc}{m:Int}(hs:ji v)(hm:0<=m)(h:v.1*v.1+v.2*v.2<(m+1)*(m+1)):vd (sqr v)<=m:=by
 obtain⟨e,_,h0,_⟩:=jh hs
 obtain⟨r0,_,r2,_⟩:=zbq h0
 have:vd (sqr v)<m+1:=yj7 (by omega) (by omega)
 omega
theorem zmt{c m L:Int}(hm:0<=m)(hL:0<L):((cutC c m L).natAbs:Int)=(c.natAbs:Int)*m/L:=by
 have q:∀z:Int,0<=z->0<=z*m/L:=fun z hz=>Int.ediv_nonneg (Int.mul_nonneg hz hm) (by omega)
 unfold cutC
 split
 ·have:=q (-c) (by omega)
  rw[show(c.natAbs:Int)=-c by omega];omega
 ·have:=q c (by omega)
  rw[show(c.natAbs:Int)=c by omega];omega
theorem ze5{c m L:Int}(hm:0<=m)(hmL:m<L):(cutC c m L).natAbs<=c.natAbs:=by
 have h1:=zmt (c:=c) hm (show 0<L by omega)
 have h2:(c.natAbs:Int)*m/L<=c.natAbs:=by
  have:(c.natAbs:Int)*m<=c.natAbs*L:=Int.mul_le_mul_of_nonneg_left (by omega) (by omega)
  exact Int.le_trans (Int.ediv_le_ediv (by omega) this) (by rw[Int.mul_ediv_cancel _ (by omega)];exact Int.le_refl _)
 omega
theorem ze8{v:Vc}{m:Int}(hs:ji v)(hm:0<=m):ji (qj v m)/\(qj v m).1*(qj v m).1+(qj v m).2*(qj v m).2<(m+1)*(m+1):=by
 obtain⟨e,en,h0,h1⟩:=jh hs
 have hmx:max m 0=m:=by omega
 have n1:nrm v.1=v.1:=congrArg Prod.fst en
 have n2:nrm v.2=v.2:=congrArg Prod.snd en
 have r0:=(zbq h0).1
 unfold qj
 rw[hmx]
 split
 ·rename_i hle
  rw[en]
  refine⟨hs,?_⟩
  have:=zhz (show 0<=vd (sqr v)+1 by omega) (show vd (sqr v)+1<=m+1 by omega)
  omega
 ·rename_i hgt
  rw[n1,n2]
  have hmL:m<vd (sqr v):=by omega
  have c1:=ze5 (c:=v.1) hm hmL
  have c2:=ze5 (c:=v.2) hm hmL
  refine⟨?_,?_⟩
  ·unfold ji at hs⊢
   dsimp only
   omega
  ·dsimp only
   rw[zgy (cutC v.1 _ _),zgy (cutC v.2 _ _)]
   refine yug (s:=0) (x:=v.1.natAbs) (y:=v.2.natAbs) (by omega) (by omega) hm hmL ?_ (zmt hm (by omega)) (zmt hm (by omega))
   rw[<-zgy,<-zgy]
   omega
theorem zub(x:Int)(k:Nat):(x.tdiv (2^k:Nat)).natAbs<=x.natAbs:=by
 rw[Int.natAbs_tdiv]
 exact Nat.div_le_self _ _
def mapV(p:Vc):Prop:=(0<=p.1/\p.1<=8388608)/\(0<=p.2/\p.2<=8388608)
theorem vj{a b:Int}(ha:-2251799813685248<=a/\a<=2251799813685248)(hb:-2251799813685248<=b/\b<=2251799813685248):fadd a b=a+b:=by
 unfold fadd vr
 rw[xz (by omega),xz (by omega),if_neg (by omega),if_neg (by omega)]
theorem zhi{p q:Vc}(hp:mapV p)(hq:mapV q):vsub q p=(q.1-p.1,q.2-p.2)/\ji (vsub q p):=by
 obtain⟨p1,p2⟩:=hp
 obtain⟨q1,q2⟩:=hq
 have e:=zj6 (a:=q) (b:=p) (by omega) (by omega) (by omega) (by omega)
 refine⟨e,?_⟩
 rw[e]
 unfold ji
 dsimp only
 omega
theorem zc8{p q:Vc}(hp:mapV p)(hq:mapV q){r:Int}(hr:0<r):-16777216<=(we p r q).1/\(we p r q).1<=16777216/\-16777216<=(we p r q).2/\(we p r q).2<=16777216:=by
 obtain⟨e,hs⟩:=zhi hq hp
 unfold we
 split
 ·rename_i hn
  generalize hm:r-vd (sqr (vsub p q))=m
  have hv:∀w:Vc,ji w->(w.1.natAbs<=16777216/\w.2.natAbs<=16777216)->-16777216<=(qj w m).1/\(qj w m).1<=16777216/\-16777216<=(qj w m).2/\(qj w m).2<=16777216:=by
   intro w hw hb
   obtain⟨_,en,_,_⟩:=jh hw
   have n1:nrm w.1=w.1:=congrArg Prod.fst en
   have n2:nrm w.2=w.2:=congrArg Prod.snd en
   unfold qj
   split
   ·rw[en];omega
   ·rename_i hgt
    rw[n1,n2]
    have c1:=ze5 (c:=w.1) (m:=max m 0) (L:=vd (sqr w)) (by omega) (by omega)
    have c2:=ze5 (c:=w.2) (m:=max m 0) (L:=vd (sqr w)) (by omega) (by omega)
    dsimp only
    omega
  obtain⟨p1,p2⟩:=hp
  obtain⟨q1,q2⟩:=hq
  split
  ·exact hv _ (by unfold ji;decide) (by decide)
  ·refine hv _ hs ?_
   rw[e]
   dsimp only
   omega
 ·decide
theorem zwk{w:Wld}{u:Unt}(hu:mapV u.pos)(h:∀x∈w.U,x.inn=0->mapV x.pos)(hl:w.U.length<=4096):ji (zcu w u):=by
 have key:∀(l:List Unt) (v:Vc) (B:Nat),(∀x∈l,x.inn=0->mapV x.pos)->B+l.length<=4096->(v.1.natAbs<=B*16777216/\v.2.natAbs<=B*16777216)->
   ji (l.foldl (fun v x=>if x.inn=0/\x.id≠u.id then vadd v (we u.pos (kRad u.kind+kRad x.kind+16384) x.pos)else v) v):=by
  intro l
  induction l with
  |nil=>
   intro v B _ hB hv
   unfold ji
   simp only[List.length_nil]at hB
   simp only[List.foldl_nil]
   omega
  |cons x l ih=>
   intro v B hx hB hv
   simp only[List.length_cons]at hB
   rw[List.foldl_cons]
   refine ih _ (B+1) (fun y hy=>hx y (List.mem_cons_of_mem _ hy)) (by omega) ?_
   split
   ·rename_i hc
    have r1:=zq8 u.kind
    have r2:=zq8 x.kind
    have:=zc8 hu (hx x List.mem_cons_self hc.1) (r:=kRad u.kind+kRad x.kind+16384) (by omega)
    generalize we u.pos (kRad u.kind+kRad x.kind+16384) x.pos=z at*
    have e:vadd v z=(v.1+z.1,v.2+z.2):=by
     unfold vadd
     rw[vj (by omega) (by omega),vj (by omega) (by omega)]
    rw[e]
    dsimp only
    omega
   ·exact⟨Nat.le_trans hv.1 (Nat.mul_le_mul_right _ (Nat.le_succ B)),Nat.le_trans hv.2 (Nat.mul_le_mul_right _ (Nat.le_succ B))⟩
 unfold zcu
 refine key w.U (0,0) 0 h (by omega) ⟨?_,?_⟩
 ·show(0:Int).natAbs<=_;simp
 ·show(0:Int).natAbs<=_;simp
end Go.V
namespace Go.V
theorem zci(w:Wld){a b:Unt}(h:a.id=b.id):putU (putU w a) b=putU w b:=by
 unfold putU
 simp only[List.map_map]
 congr 1
 refine List.map_congr_left fun x _=>?_
 simp only[Function.comp]
 by_cases e:x.id=a.id
 ·rw[if_pos e,if_pos h,if_pos (e.trans h)]
 ·rw[if_neg e]
theorem zzt{w:Wld}(hr:yh w.U){i:Nat}(hi:i<w.U.length):putU w w.U[i]=w:=by
 rw[qw hr hi rfl]
 congr 1
 exact List.set_getElem_self hi
theorem zvo{w:Wld}(hr:yh w.U){i:Nat}(hi:i<w.U.length){u:Unt}(hid:u.id=w.U[i].id):yh (putU w u).U:=by
 refine zib (zes w u) (fun j hj=>?_) hr
 by_cases e:j=i
 ·subst e
  obtain⟨_,h⟩:=zil hr hi hid
  rw[h];exact hid
 ·rw[zra hr hi hid hj e]
def zut(u u':Unt):Prop:=u'.id=u.id/\u'.kind=u.kind/\(u'.pos=u.pos\/∃(v:Vc) (m:Int) (k:Nat),ji v/\0<=m/\m<=yp u.kind/\u'.pos=vadd u.pos (wj (vnrm (qj v m)) k))
theorem zdx(k:Int):8192<=yp k/\yp k<=24576:=by unfold yp;split<;>(try split)<;>(try split)<;>omega
theorem zs6{w:Wld}(hr:yh w.U){i:Nat}(hi:i<w.U.length){v:Vc}{m:Int}(hs:ji v)(hm:0<=m)(hm2:m<=yp w.U[i].kind):∃u',tryW w w.U[i] (qj v m)=putU w u'/\zut w.U[i] u':=by
 unfold tryW
 cases h:tryL w w.U[i] (vnrm (qj v m)) 5 0 with
 |none=>exact⟨w.U[i],(zzt hr hi).symm,rfl,rfl,.inl rfl⟩
 |some r=>
  obtain⟨k,p⟩:=r
  obtain⟨_,_,h3⟩:=zc1 5 0 h
  exact⟨_,rfl,rfl,rfl,.inr ⟨v,m,k,hs,hm,hm2,h3⟩⟩
theorem zbi{w:Wld}(hm:mayP w){u:Unt}(hu:u∈w.U)(h0:u.inn=0):mapV u.pos:=by
 have:=zud hm.1.1.2.1.1 (hm.2.1 u hu h0).1
 unfold mapV
 omega
theorem zmz{g:Gnd}(hg:gndP g){t:Nat}(ht:t<g.T.length):mapV (cenV g t):=by
 obtain⟨⟨h1,h2⟩,⟨h3,h4⟩,h5,_⟩:=hg
 have a:=Int.emod_nonneg (t:Int) (show g.W≠0 by omega)
 have b:=Int.emod_lt_of_pos (t:Int) (show 0<g.W by omega)
 have c:0<=(t:Int)/g.W:=Int.ediv_nonneg (by omega) (by omega)
 have d:(t:Int)/g.W<g.H:=Int.ediv_lt_of_lt_mul (by omega) (by rw[Int.mul_comm];omega)
 unfold mapV cenV tx ty
 dsimp only
 omega
theorem zny{w:Wld}(hm:mayP w){i:Nat}(hi:i<w.U.length)(h0:w.U[i].inn=0){u:Unt}(hu:mvG 0 u=mvG 0 w.U[i])(ht:u.next.toNat<w.G.T.length):∃u',ww w u=putU w u'/\zut w.U[i] u':=by
 obtain⟨f1,f2,f3,f4,f5⟩:=zck hu
 have hmp:=zbi hm (List.getElem_mem hi) h0
 have same:∀u':Unt,u'.id=u.id->u'.kind=u.kind->u'.pos=u.pos->∃u2,putU w u'=putU w u2/\zut w.U[i] u2:=fun u' a b c=>⟨u',rfl,a.trans f1,b.trans f3,.inl (c.trans f4)⟩
 unfold ww
 split
 ·obtain⟨h2,e⟩:=zil (u:={u with stuck:=0}) hm.1.2.1 hi f1
  have hr2:=zvo (u:={u with stuck:=0}) hm.1.2.1 hi f1
  have hs:=(zhi (p:=u.pos) (q:=cenV w.G u.next.toNat) (by rw[f4];exact hmp) (zmz hm.1.1.2.1.1 ht)).2
  have hsp:=zdx u.kind
  obtain⟨u2,e2,k1,k2,k3⟩:=zs6 hr2 h2 (v:=vsub (cenV w.G u.next.toNat) u.pos) (m:=yp u.kind) hs (by omega) (by rw[e];exact Int.le_refl _)
  rw[e]at e2 k1 k2 k3
  refine⟨u2,?_,k1.trans f1,k2.trans f3,?_⟩
  ·unfold xw
   rw[e2]
   exact zci w k1.symm
  ·rw[<-f4,<-f3];exact k3
 ·split
  ·exact same _ rfl rfl rfl
  ·exact same _ rfl rfl rfl
theorem ysg{w:Wld}(hg:gndP w.G){u:Unt}{own:Nat}(ho:own<w.G.T.length)(h:¬wg w u own<0):(wg w u own).toNat<w.G.T.length:=by
 have:=zdb hg (u:=u) ho
 have:=hg.2.2.1
 unfold zbm at*
 omega
theorem ybh{w:Wld}(hm:mayP w){i:Nat}(hi:i<w.U.length)(h0:w.U[i].inn=0)(hg:w.U[i].goal≠-1):∃u',zbu w w.U[i]=putU w u'/\zut w.U[i] u':=by
 have hu:=znp hm hi
 have hgn:=hm.1.1.2.1.1
 unfold zbu
 split
 ·exact⟨_,rfl,rfl,rfl,.inl rfl⟩
 ·split
  ·split
   ·exact⟨_,rfl,rfl,rfl,.inl rfl⟩
   ·rename_i hn
    exact zny hm hi h0 (u:={w.U[i]with next:=wg w w.U[i] (ql w.G w.U[i].pos)}) rfl (ysg hgn (zon hm hi h0) hn)
  ·rename_i hl
   refine zny hm hi h0 rfl ?_
   have hne:w.U[i].next≠-1:=fun e=>hl (by unfold xq;simp[e])
   have:=hu.2.1.2.1
   have:=hgn.2.2.1
   unfold zbm at*
   omega
theorem zx9{w:Wld}(hm:mayP w){i:Nat}(hi:i<w.U.length)(h0:w.U[i].inn=0):∃u',j9 w w.U[i]=putU w u'/\zut w.U[i] u':=by
 unfold j9
 split
 ·have hsp:=zdx w.U[i].kind
  have e:(yp w.U[i].kind).tdiv 4=yp w.U[i].kind/4:=Int.tdiv_eq_ediv_of_nonneg (by omega)
  unfold zg3
  rw[e]
  exact zs6 hm.1.2.1 hi (zwk (zbi hm (List.getElem_mem hi) h0) (fun x hx h=>zbi hm hx h) hm.1.1.2.1.2.2) (by omega) (by omega)
 ·exact ybh hm hi h0 ‹_›
end Go.V
namespace Go.V
structure MayF(w:Wld):Prop where
 hg:gndP w.G
 hB:w.B.length<=256
 hU:w.U.length<=4096
 hT:w.G.T.length<=16384
 hb:∀b∈w.B,bldP b/\onP w.G b
 hk:∀u∈w.U,zca u.kind
 hr:yh w.U
 hn1:1<=w.next
 hn2:w.next<=1099511627776
theorem mayF{w:Wld}(h:mayP w):MayF w:=by
 obtain⟨⟨hh,hok⟩,_⟩:=h
 have hbl:=hh.2.1.2.1
 have ha:=zr hh.2.1.1
 exact⟨hh.2.1.1,hbl.1,hh.2.1.2.2,by omega,fun b hb=>⟨(hbl.2.2.1 b hb).1,(hbl.2.2.1 b hb).2.1⟩,fun u hu=>(hok.2 u hu).1.1.2.2,hok.1,hh.1.2.2.1,hh.1.2.2.2⟩
theorem MayF.fits{w:Wld}(h:MayF w):w.fits:=⟨by unfold Gnd.fits;have:=h.hT;omega,by have:=h.hB;omega,by have:=h.hU;omega⟩
theorem zf0(k:Int):0<=yy k/\yy k<=3:=by unfold yy;split<;>decide
end Go.V
namespace Go.V
structure Scr24 where
 W:Wld
 I:List Int
 V:List Vc
def zn5(s:Scr24):List AV:=wldC s.W++[ints s.I,lst 2 vecC s.V]
def zhc(s:Scr24):Prop:=(zpd s.W\/s.I.length>40)\/s.V.length>40
def Scr24.good(s:Scr24):Prop:=(∀u∈s.W.U,u.pos.ok)/\(∀n∈s.I,yq n)/\∀v∈s.V,v.ok
theorem zqo(a b:Vc):(vadd a b).ok:=by
 have h1:=zmx (nrm a.1+nrm b.1)
 have h2:=zmx (nrm a.2+nrm b.2)
 exact⟨⟨by show _<=vr _;omega,by show vr _<=_;omega⟩,⟨by show _<=vr _;omega,by show vr _<=_;omega⟩⟩
def playW(w:Wld):Prop:=mayP w/\∀u∈w.U,u.pos.ok
theorem playW.sizes{w:Wld}(h:playW w):w.G.T.length<=1000000/\w.B.length<=1000000/\w.U.length<=1000000:=by
 have f:=mayF h.1
 have:=f.hB
 have:=f.hU
 have:=f.hT
 omega
theorem yom{u u':Unt}(h:zut u u')(hu:u.pos.ok):u'.pos.ok:=by
 rcases h.2.2 with e|⟨v,m,k,_,_,_,e⟩
 ·rw[e];exact hu
 ·rw[e];exact zqo _ _
theorem ytt{w:Wld}{u:Unt}(hw:∀x∈w.U,x.pos.ok)(hu:u.pos.ok):∀x∈(putU w u).U,x.pos.ok:=by
 intro x hx
 unfold putU at hx
 obtain⟨y,hy,rfl⟩:=List.mem_map.1 hx
 split
 ·exact hu
 ·exact hw y hy
end Go.V
namespace Go.V
open Go.ChangeShapes Go.WideShapes Go.ChangeAt Go.RowKit Go.Deep
def T0:Nat->Nat->Prop:=fun _ _=>False
def CellsOK(w:World)(ys:List AV)(cs:List Value):Prop:=ys.length=cs.length/\∀(i:Nat) (y:AV) (v:Value),ys[i]?=some y->cs[i]?=some v->VRel w T0 y v/\yd v=true
theorem CellsOK.nil(w:World):CellsOK w [] []:=⟨rfl,fun i y v h=>by simp at h⟩
theorem CellsOK.one{w:World}{y:AV}{v:Value}(h:VRel w T0 y v)(h1:yd v=true):CellsOK w [y] [v]:=
  ⟨rfl,fun i y' v' hy hv=>by
    cases i with
    |zero=>simp at hy hv;subst hy hv;exact⟨h,h1⟩
    |succ i=>simp at hy⟩
theorem CellsOK.app{w:World}{ys ys':List AV}{cs cs':List Value}(h:CellsOK w ys cs)(h':CellsOK w ys' cs'):CellsOK w (ys++ys') (cs++cs'):=by
  refine⟨by simp[h.1,h'.1],fun i y v hy hv=>?_⟩
  by_cases hi:i<ys.length
  · rw[List.getElem?_append_left hi]at hy
    rw[List.getElem?_append_left (by rw[<-h.1];exact hi)]at hv
    exact h.2 i y v hy hv
  · rw[List.getElem?_append_right (by omega)]at hy
    rw[List.getElem?_append_right (by rw[<-h.1];omega)]at hv
    rw[<-h.1]at hv
    exact h'.2 _ y v hy hv
structure Codec(P:Program)(t:TypeId)(α:Type)(f:α->List AV)(ok:α->Prop):Prop where
  out:∀{H:Type} (enc:TypeId×Value->H) (w:World) (base:Nat) (held:Bool) (fuel:Nat) (cs:List Value) (x:DataW H×List MemPlace),
    DataW.trod enc P w base (fun _=>true) held fuel t cs=some x->(∀n∈x.1.weights P t,n<=reachBytes)->∃a:α,ok a/\CellsOK w (f a) cs
theorem Codec.weaken{P:Program}{t:TypeId}{α:Type}{f:α->List AV}{ok ok':α->Prop}(C:Codec P t α f ok)(h:∀a,ok a->ok' a):Codec P t α f ok':=
  ⟨fun enc w base held fuel cs x hx hw=>by
    obtain⟨a,h1,h2⟩:=C.out enc w base held fuel cs x hx hw
    exact⟨a,h a h1,h2⟩⟩
section
variable {P:Program} {t e:TypeId}
theorem Codec.int{k:IntKind}(ht:P.underlying t=some (.int k)):Codec P t Int (fun n=>[.s (.int k n)]) (fun n=>(Lit.int k n).wf=true):=by
  refine⟨fun{H} enc w base held fuel cs x hx hw=>?_⟩
  clear hw
  obtain⟨n,rfl,_,hw⟩:=DataW.trod_int ht hx
  exact⟨n,hw,CellsOK.one (VRel.s _) rfl⟩
theorem Codec.byte(ht:P.underlying t=some (.int .u8)):Codec P t UInt8 (fun b=>[.s (.int .u8 b.toNat)]) (fun _=>True):=by
  refine⟨fun{H} enc w base held fuel cs x hx hw=>?_⟩
  clear hw
  obtain⟨n,rfl,_,hw⟩:=DataW.trod_int ht hx
  have hb:0<=n/\n<=255:=by simp[Lit.wf,IntKind.min,IntKind.max,IntKind.signed,IntKind.bits]at hw;omega
  refine⟨UInt8.ofNat n.toNat,Tv,?_⟩
  have e:((UInt8.ofNat n.toNat).toNat:Int)=n:=by rw[UInt8.toNat_ofNat'];omega
  show CellsOK w [.s (.int .u8 ((UInt8.ofNat n.toNat).toNat:Int))] _
  rw[e]
  exact CellsOK.one (VRel.s _) rfl
theorem Codec.slice{α:Type}{f:α->List AV}{ok:α->Prop}{k:Nat}(ht:P.underlying t=some (.slice e))(hk:P.cellsOf e=k)(h0:0<k)(hb:0<P.bytesOf e)(C:Codec P e α f ok):
    Codec P t (List α) (fun l=>[.lst k (l.map f) none]) (fun l=>(∀a∈l,ok a)/\l.length<=140737488355328):=by
  refine⟨fun{H} enc w base held fuel cs x hx hw=>?_⟩
  skip
  rcases open_slice ht hx with⟨rfl,rfl⟩|⟨a,len,cap,m,n,D,Pl,rfl,hbase,hl,hmax,hme,rfl,hel⟩
  · exact⟨[],⟨(fun a h=>by cases h),by simp⟩,CellsOK.one (VRel.nil _ _) rfl⟩
  · simp only[if_true]at hme
    subst hme
    have hlen:len<=140737488355328:=by
      have h1:=hw ((((List.range len).map D).length+((List.range (m-len)).map fun j=>D (len+j)).length)*P.bytesOf e) (by simp[DataW.weights,ht])
      simp at h1
      have h2:len<=(len+(m-len))*P.bytesOf e:=by
        have:len+(m-len)<=(len+(m-len))*P.bytesOf e:=Nat.le_mul_of_pos_right _ hb
        omega
      have h3:reachBytes<140737488355328:=by decide
      omega
    have hwi:∀i,i<len->∀n∈(D i).weights P e,n<=reachBytes:=by
      intro i hi n hn
      refine hw n ?_
      simp only[DataW.weights,ht,List.mem_cons,List.mem_append]
      right;left
      have key:∀(l:List (DataW H)) (d:DataW H),d∈l->n∈d.weights P e->n∈DataW.weightsAll P e l:=by
        intro l
        induction l with
        |nil=>intro d hd;cases hd
        | cons y l ih=>
          intro d hd hnd
          simp only[DataW.weightsAll,List.mem_append]
          rcases List.mem_cons.1 hd with rfl|hd
          · exact .inl hnd
          · exact .inr (ih d hd hnd)
      exact key _ (D i) (List.mem_map.2 ⟨i,List.mem_range.2 hi,rfl⟩) hn
    have each:∀j,j<=len->∃l:List α,l.length=j/\∀i (h:i<l.length),ok l[i]/\∃cs',w.cells? base (a.add (i*k)) k=some cs'/\CellsOK w (f l[i]) cs':=by
      intro j
      induction j with
      |zero=>intro _;exact⟨[],rfl,fun i h=>by simp at h⟩
      | succ j ih=>
        intro hj
        obtain⟨l,hll,hli⟩:=ih (by omega)
        obtain⟨cs',h1,h2⟩:=hel j (by omega)
        rw[hk]at h1
        obtain⟨y,hy1,hy2⟩:=C.out enc w base held n cs' _ h2 (hwi j (by omega))
        refine⟨l++[y],by simp[hll],fun i hi=>?_⟩
        by_cases hij:i<l.length
        · rw[List.getElem_append_left hij];exact hli i hij
        · have:i=l.length:=by simp at hi;omega
          subst this
          rw[List.getElem_append_right (Nat.le_refl _)]
          simp only[Nat.sub_self,List.getElem_cons_zero]
          rw[hll]
          exact⟨hy1,cs',h1,hy2⟩
    obtain⟨l,hll,hli⟩:=each len (Nat.le_refl _)
    refine⟨l,⟨fun y hy=>?_,by omega⟩,CellsOK.one ?_ rfl⟩
    · obtain⟨i,hi,rfl⟩:=List.getElem_of_mem hy
      exact(hli i hi).1
    by_cases hm:m=0
    · have:len=0:=by omega
      subst this
      have:l=[]:=List.eq_nil_of_length_eq_zero hll
      subst this
      rw[hm]
      exact VRel.nil _ _
    · obtain⟨b,off,spot⟩:=a
      have hspot:spot=none:=by
        obtain⟨cs',h1,_⟩:=hel 0 (by omega)
        rw[hk]at h1
        have h2:=World.cells?_some h1
        have h3:=h2.2.2 0 h0
        have h4:0<cs'.length:=by rw[h2.2.1];exact h0
        rw[List.getElem?_eq_getElem h4]at h3
        cases spot with
        |none=>rfl
        | some s=>
          simp only[Nat.zero_mul,World.cell?,Addr.add,if_true]at h3
          split at h3
          · simp at h3
          · cases h3
      subst hspot
      have hrow:∀i (h:i<l.length),(f l[i]).length=k:=fun i h=>by
        obtain⟨cs',h1,h2⟩:=(hli i h).2
        rw[h2.1];exact(World.cells?_some h1).2.1
      have hget:∀(i:Nat) (row:List AV),(l.map f)[i]?=some row->∃h:i<l.length,row=f l[i]:=fun i row h=>by
        rw[List.getElem?_map]at h
        have hi:i<l.length:=by
          by_cases hi:i<l.length
          · exact hi
          · rw[List.getElem?_eq_none (by omega)]at h;cases h
        rw[List.getElem?_eq_getElem hi]at h
        simp at h
        exact⟨hi,h.symm⟩
      have hcell:∀(i:Nat) (row:List AV) (j:Nat) (y:AV),(l.map f)[i]?=some row->row[j]?=some y->∃v,w.cell? ⟨b,off+(i*k+j),none⟩=some v/\VRel w T0 y v/\yd v=true:=by
        intro i row j y h1 h2
        obtain⟨hi,rfl⟩:=hget i row h1
        obtain⟨cs',h3,h4⟩:=(hli i hi).2
        have h5:=World.cells?_some h3
        have hj:j<cs'.length:=by rw[<-h4.1];exact(List.getElem?_eq_some_iff.1 h2).1
        have h6:=h5.2.2 j (by rw[<-h5.2.1];exact hj)
        rw[List.getElem?_eq_getElem hj]at h6
        refine⟨cs'[j],?_,h4.2 j y _ h2 (List.getElem?_eq_getElem hj)⟩
        rw[<-h6]
        simp only[j5,Nat.add_assoc]
      have hlen2:(l.map f).length=len:=by simp[hll]
      have res:VRel w T0 (.lst k (l.map f) none) (.slice (some ⟨b,off,none⟩) (l.map f).length m):=
        VRel.lst (l.map f) none b off m k (fun p=>(w.cell? ⟨b,off+p,none⟩).getD undef) (by rw[hlen2];exact hl) (fun i row h=>by obtain⟨hi,rfl⟩:=hget i row h;exact hrow i hi) (fun _ h=>by cases h)
          (fun i row j y h1 h2=>by obtain⟨v,h3,_⟩:=hcell i row j y h1 h2;rw[h3];exact⟨rfl,fun h=>h⟩)
          (fun i row j y h1 h2=>by obtain⟨v,h3,_,h4⟩:=hcell i row j y h1 h2;rw[h3];exact h4)
          (fun i row j y h1 h2=>by obtain⟨v,h3,h4,_⟩:=hcell i row j y h1 h2;rw[h3];exact h4)
      rw[hlen2]at res
      exact res
theorem zm{H:Type}{enc:TypeId×Value->H}{w:World}{base:Nat}{held:Bool}{fuel:Nat}{cs:List Value}{x:DataW H×List MemPlace}{fs:Array Field}(ht:P.underlying t=some (.struct fs))
    (hx:DataW.trod enc P w base (fun _=>true) held fuel t cs=some x) (hw:∀n∈x.1.weights P t,n<=reachBytes) {α:Type} {g:α->List AV} {ok:α->Prop} (i o s:Nat) {fld:Field} (hf:fs[i]?=some fld) (ho:fld.offset=o) (hs:P.cellsOf fld.type=s)
    (C:Codec P fld.type α g ok):∃a,ok a/\CellsOK w (g a) ((cs.drop o).take s):=by
  obtain⟨xs,n,_,rfl,_,hlen,hall⟩:=DataW.trod_struct ht hx
  have h1:=hall i fld hf
  have hi:i<xs.length:=by rw[hlen];exact(Array.getElem?_eq_some_iff.1 hf).1
  rw[List.getElem?_eq_getElem hi,ho,hs]at h1
  refine C.out enc w base held n _ _ h1 fun m hm=>hw m ?_
  simp only[DataW.weights,ht]
  refine DataW.weights_mem_each (j:=i) (t:=fld.type) (d:=xs[i].1) ?_ ?_ m hm
  · simp[hf]
  · simp[hi]
theorem wo{H:Type}{enc:TypeId×Value->H}{w:World}{base:Nat}{held:Bool}{fuel:Nat}{cs:List Value}{x:DataW H×List MemPlace}{fs:Array Field}(ht:P.underlying t=some (.struct fs))
    (hx:DataW.trod enc P w base (fun _=>true) held fuel t cs=some x):cs.length=P.cellsOf t:=by
  obtain⟨_,_,_,_,h,_⟩:=DataW.trod_struct ht hx
  exact h
theorem CellsOK.cons{w:World}{ys ys':List AV}{cs:List Value}{o s o':Nat}(h:CellsOK w ys ((cs.drop o).take s))(ho:o'=o+s)(h':CellsOK w ys' (cs.drop o')):CellsOK w (ys++ys') (cs.drop o):=by
  have e:cs.drop o=(cs.drop o).take s++cs.drop o':=by rw[ho,<-List.drop_drop,List.take_append_drop]
  rw[e]
  exact h.app h'
theorem CellsOK.stop{w:World}{cs:List Value}{o:Nat}(h:cs.length=o):CellsOK w [] (cs.drop o):=by
  rw[List.drop_of_length_le (by omega)];exact CellsOK.nil w
end
theorem zrc{H:Type}{enc:TypeId×Value->H}{P:Program}{f:Func}{s:ChangeSpec}{zam fresh handsOn again:Bool}{W W':World}{args:Array Value}{v:Value}{ds gs:List (DataW H)}{before pa pv:List MemPlace}
    (hW:DataW.Whole enc P f.params.toList s.vars zam W args.toList ds gs before)
    (hres:∀(b:Nat) (sp:Nat->Bool) (hd:Bool),DataW.TrodAll enc P W' b sp hd f.resultTypes.toList (v.resultList f.resultTypes.size) (s.fn H (ds++gs)).results [])
    (hargs:∀sp:Nat->Bool,(∀p∈before,sp p.block=true)->DataW.TrodAll enc P W' 0 sp true f.params.toList args.toList (s.fn H (ds++gs)).args pa)
    (hvars:∀sp:Nat->Bool,(∀p∈before,sp p.block=true)->DataW.TrodVars enc P W' sp s.vars (s.fn H (ds++gs)).vars pv)
    (hps:before=pa++pv) (hk:W.keptBut W' (·∈before)) (hfz:∀b off,b<W.heap.size->W'.frozen? ⟨b,off,none⟩=W.frozen? ⟨b,off,none⟩)
    (hok:∀(j:Nat) (t:TypeId) (r:Value),f.resultTypes[j]?=some t->(v.resultList f.resultTypes.size)[j]?=some r->Value.okWide P W' .any 0 t r):
    s.post enc P f zam fresh handsOn again W args v W':=by
  have hlt:∀p∈before,p.block<W.heap.size:=hW.lt
  have hold:∀p∈before,(fun b=>decide (b<W.heap.size)) p.block=true:=fun p hp=>by simpa using hlt p hp
  refine⟨ds,gs,before,[],pa,pv,hW,hres _ _ _,hargs _ hold,hvars _ hold,World.keptBut_mono (fun p hp=>⟨hp,?_⟩) hk,fun _=>?_⟩
  · rw[hps,List.mem_append]at hp
    exact Or.inr hp
  · obtain⟨_,_,_,_,_,hz,hn⟩:=hW
    refine⟨hok,_,_,([]++pa)++pv,⟨[]++pa,pv,trodAll_append (hargs _ (fun _ _=>rfl)) (hres _ _ _),hvars _ (fun _ _=>rfl),rfl,?_,?_⟩,?_⟩
    · intro b off hp
      have hp':MemPlace.cell b off∈before:=by rw[hps];simpa using hp
      rw[hfz b off (hlt _ hp')]
      exact hz b off hp'
    · intro ha
      have:=hn ha
      rw[hps]at this
      simpa using this
    · intro p hp _
      rw[hps]
      simpa using hp
theorem Below.kept{W W':World}(h:Below W.heap.size W W')(may:MemPlace->Prop):W.keptBut W' may:=by
  refine⟨h.os,h.output,fun i hi=>?_⟩
  rw[h.block i hi]
  obtain⟨o,ho⟩:∃o,W.heap[i]?=some o:=⟨_,Array.getElem?_eq_getElem hi⟩
  rw[ho]
  cases o with
  |cells c t fr=>exact⟨rfl,rfl,rfl,fun _ _=>rfl⟩
  |map es clock=>exact .inr ⟨rfl,rfl⟩
  |_=>rfl
theorem Below.froz{W W':World}(h:Below W.heap.size W W'):∀b off,b<W.heap.size->W'.frozen? ⟨b,off,none⟩=W.frozen? ⟨b,off,none⟩:=by
  intro b off hb
  simp only[World.frozen?,h.block b hb]
theorem zjg {P : Program} {f : FuncId} {v : Value} {x : AV} {W : World} {R : AV -> Prop} {fn : Func} {code : Code} (h1 : P.funcs[f]? = some fn) (h2 : fn.body = some code) (h3 : (fn.name == "runtime.NumGoroutine") = false)
    (h:ACalls P f [x] Store.empty fun r _=>R r) (hx:VRel W T0 x v):Calls P f #[v] W fun e W'=>∃r u,e=.returned u/\R r/\(∃T,VRel W' T r u)/\Below W.heap.size W W':=by
  have hs:StoreOK Store.empty (fun _ _=>False) (fun _ _=>False) W:=
    ⟨fun b x h=>by simp[Store.empty]at h,fun b x h=>by simp[Store.empty]at h,fun _ _ h=>h.elim,fun _ _ h=>h.elim,fun _ _ h=>h.elim⟩
  have hr:Reads W (fun b o=>(fun _ _=>False:Nat->Nat->Prop) b o\/(fun _ _=>False:Nat->Nat->Prop) b o) [x] #[v].toList:=
    Reads.cons (hx.mono fun b o h=>by rcases h with h|h<;>exact h) Reads.nil
  have h4:=h.out (fun _ _=>False) (fun _ _=>False) W #[v] hs hr
  have hrun:(callFunc f #[v]).run P W=.ok (.enter f #[v]) W:=by
    have hne : ¬ fn.name = "runtime.NumGoroutine" := by simpa using h3
    simp[callFunc,run_program,h1,hne,h2]
  rw[hrun]at h4
  simp only[zff]at h4
  refine Calls.mono h4 fun e W' ⟨u,he,r,st',M',hR,hv,_,hc⟩=>⟨r,u,he,hR,⟨_,hv⟩,?_⟩
  exact⟨hc.os,hc.tape,hc.output,hc.size,fun b hb=>hc.blk b hb fun _ h=>h⟩
end Go.V
