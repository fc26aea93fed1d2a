/- Ground of laws of thronglaw25: contracts and plain lemmas; no condition beyond the row's own. -/
import Derived.Test.YtdfpifbbcigelaaGreatKF
set_option linter.unusedSimpArgs false
set_option linter.unusedVariables false
namespace Go.V
theorem ACalls.frozenLe{P:Program}{f:FuncId}{xs:List AV}{st0:Store}{Q:Ja}{R:Ja}(h:ACalls P f xs st0 Q)
    (hQ:∀r S,Q r S->∃r2 S2,R r2 S2/\(∀b x,S2.obj b=some x->S.obj b≠none)/\(∀b x,S2.tok b≠some x)∧
      ∀ (Oth M:Nat->Nat->Prop) (w:World),StoreOK S Oth M w->(∀b x,S2.obj b=some x->ObjRel w (λb o=>(M b o\/Oth b o)/\(S.obj b=none\/S2.obj b≠none)) x b)∧
        ∀v,VRel w (λb o=>M b o\/Oth b o) r v->VRel w (λb o=>(M b o\/Oth b o)/\(S.obj b=none\/S2.obj b≠none)) r2 v):
    ACalls P f xs st0 R:=by
  refine⟨λOth M w vs sto hr=>?_⟩
  have h1:=h.out Oth M w vs sto hr
  have key:∀v w',yw st0 Q Oth M w v w'->yw st0 R Oth M w v w':=by
    rintro v w' ⟨r,S,M',hq,hv,hs,hc⟩
    obtain⟨r2,S2,hr2,hsub,htok,hk⟩:=hQ r S hq
    obtain⟨hk1,hk2⟩:=hk Oth M' w' hs
    have hT:∀b o,((M' b o/\(S.obj b=none\/S2.obj b≠none))\/Oth b o)->((M' b o\/Oth b o)/\(S.obj b=none\/S2.obj b≠none)):=λb o h=>by
      rcases h with⟨h1,h2⟩|h1
      · exact⟨.inl h1,h2⟩
      · refine⟨.inr h1,?_⟩
        cases hb:S.obj b with
        |none=>exact .inl rfl
        |some y=>exact absurd ((hs.obj b y hb).2 o) (hs.dis b o h1)
    refine⟨r2,S2,λb o=>M' b o/\(S.obj b=none\/S2.obj b≠none),hr2,(hk2 v hv).mono hT,?_,?_⟩
    · refine{obj:=λb x hx=>⟨(hk1 b x hx).mono hT,λo=>⟨?_,.inr (by rw[hx];simp)⟩⟩,tok:=λb x hx=>absurd hx (htok b x),mlt:=λb o hm=>hs.mlt b o hm.1,olt:=hs.olt,dis:=λb o ho hm=>hs.dis b o ho hm.1}
      cases hb:S.obj b with
      |none=>exact absurd hb (hsub b x hx)
      |some y=>exact(hs.obj b y hb).2 o
    · exact{size:=hc.size,keep:=hc.keep,blk:=hc.blk,shp:=hc.shp,sub:=λb o hm hb=>hc.sub b o hm.1 hb,tape:=hc.tape,os:=hc.os,output:=hc.output}
  generalize(callFunc f vs).run P w=res at h1
  cases res with
  | ok n w'=>
    cases n with
    |enter g args=>exact Calls.mono h1 λe w'' ⟨v,he,hv⟩=>⟨v,he,key _ _ hv⟩
    |value v=>exact key _ _ h1
    |_=>exact h1
  |_=>exact h1
def Kh(x:AObj):Prop:=∀w T T' b,ObjRel w T x b->ObjRel w T' x b
theorem zve{l:List AV}(h:∀y∈l,Bx y):Kh (.cells l):=by
  rintro w T T' b ⟨c,e,fr,h1,h2,h3,h4⟩
  exact⟨c,e,fr,h1,h2,h3,λi x y hx hy=>h x (Fap hx) _ _ _ _ _ (h4 i x y hx hy)⟩
theorem zvd:Bx .any:=λ_ _ _ _ _ _=>.any _
theorem ACalls.readOwn{P:Program}{f:FuncId}{xs ys:List AV}{g:Store}{Q:Ja}{R:Ja}
    (hb:∀Oth M w vs,StoreOK g Oth M w->Reads w (λb o=>M b o\/Oth b o) xs vs->Reads w (λb o=>(M b o\/Oth b o)/\g.obj b=none) ys vs)
    (h:ACalls P f ys Store.empty Q) (hf:∀r N,Q r N->Bx r/\∀b x,N.obj b=some x->Kh x) (hR:∀r N,Q r N->zh N g->R r (N.un g)):ACalls P f xs g R:=by
  refine⟨λOth M w vs sto hr=>?_⟩
  let O1:Nat->Nat->Prop:=λb o=>(M b o\/Oth b o)/\g.obj b=none
  have e1:(λ(b o:Nat)=>False\/O1 b o)=O1:=by funext b o;simp
  have h1:=h.out O1 (λ_ _=>False) w vs {obj:=λb x hx=>(by cases hx),tok:=λb x hx=>(by cases hx),mlt:=λ_ _ h=>h.elim,olt:=λb o h=>Or.elim h.1 (sto.mlt b o) (sto.olt b o),dis:=λ_ _ _ h=>h} (by
    rw[e1];exact hb Oth M w vs.toList sto hr)
  have key:∀v w',yw Store.empty Q O1 (λ_ _=>False) w v w'->yw g R Oth M w v w':=by
    rintro v w' ⟨r,N,M2,hQ,hv,hs,hc⟩
    obtain⟨f1,f2⟩:=hf r N hQ
    have hg:Grow w w':=⟨hc.size,λb hb=>hc.blk b hb λ_ h=>h,hc.tape,hc.os,hc.output⟩
    have hnew:∀b o,M2 b o->¬b<w.heap.size:=λb o h h1=>hc.sub b o h h1
    have hglt:∀b,g.has b->b<w.heap.size:=λb hb=>by
      rcases hb with hb|hb
      · cases hx:g.obj b with
        |none=>exact absurd hx hb
        |some x=>exact sto.mlt b 0 ((sto.obj b x hx).2 0)
      · cases hx:g.tok b with
        |none=>exact absurd hx hb
        | some x=>
          obtain⟨c,e,fr,h1,_⟩:=sto.tok b x hx
          exact xl h1
    have hd:zh N g:=λb hb hg=>by
      rcases hb with hb|hb
      · cases hx:N.obj b with
        |none=>exact absurd hx hb
        |some x=>exact hnew b 0 ((hs.obj b x hx).2 0) (hglt b hg)
      · cases hx:N.tok b with
        |none=>exact absurd hx hb
        | some x=>
          obtain⟨c,e,fr,h1,h2,h3,h4⟩:=hs.tok b x hx
          exact hnew b x (h4 x (Fak _)) (hglt b hg)
    have hk:Keeps w (λb o=>M b o\/Oth b o) w' (λb o=>(M2 b o\/M b o)\/Oth b o):=
      { cell:=(hg.keeps λb o=>M b o\/Oth b o).cell,out:=λb o c hc hT hT'=>by
          rcases hT' with(h|h)|h
          · exact hnew b o h (F8 hc)
          · exact hT (.inl h)
          · exact hT (.inr h)
        shp:=(hg.keeps λb o=>M b o\/Oth b o).shp}
    refine⟨r,N.un g,λb o=>M2 b o\/M b o,hR r N hQ hd,f1 _ _ _ _ _ hv,?_,?_⟩
    · refine{obj:=λb x hx=>?_,tok:=λb top hx=>?_,mlt:=λb o hm=>?_,olt:=λb o hm=>Nat.lt_of_lt_of_le (sto.olt b o hm) hc.size,dis:=λb o hO hM=>?_}
      · rcases Ol hx with hx|⟨_,hx⟩
        · have h5:=sto.obj b x hx
          exact⟨ObjRel.same h5.1 hk (hg.blk b (hglt b (xq hx))),λo=>.inr (h5.2 o)⟩
        · have h5:=hs.obj b x hx
          exact⟨f2 b x hx _ _ _ _ h5.1,λo=>.inl (h5.2 o)⟩
      · rcases Ok hx with hx|⟨_,hx⟩
        · obtain⟨c,e,fr,h1,h2,h3,h4⟩:=sto.tok b top hx
          exact⟨c,e,fr,by rw[hg.blk b (hglt b (Dn hx))];exact h1,h2,h3,λo ho=>.inr (h4 o ho)⟩
        · obtain⟨c,e,fr,h1,h2,h3,h4⟩:=hs.tok b top hx
          exact⟨c,e,fr,h1,h2,h3,λo ho=>.inl (h4 o ho)⟩
      · rcases hm with h|h
        · exact hs.mlt b o h
        · exact Nat.lt_of_lt_of_le (sto.mlt b o h) hc.size
      · rcases hM with h|h
        · exact hnew b o h (sto.olt b o hO)
        · exact sto.dis b o hO h
    · exact
        { size:=hc.size
          keep:=λb o hb hm=>hc.keep b o hb λh=>h
          blk:=λb hb hm=>hc.blk b hb λo h=>h
          shp:=hc.shp
          sub:=λb o hm hb=>by
            rcases hm with h|h
            · exact absurd hb (hnew b o h)
            · exact h
          tape:=hc.tape
          os:=hc.os
          output:=hc.output}
  generalize(callFunc f vs).run P w=res at h1
  cases res with
  | ok n w'=>
    cases n with
    |enter f' args=>exact Calls.mono h1 λe w'' ⟨v,he,hv⟩=>⟨v,he,key _ _ hv⟩
    |value v=>exact key _ _ h1
    |_=>exact h1
  |_=>exact h1
theorem O7{st:Store}{p b:Nat}{x y:AObj}(h:(st.sO p x).obj b=some y):(b=p/\y=x)\/(b≠p/\st.obj b=some y):=by
  by_cases e:b=p
  · subst e;rw[zc]at h;exact .inl ⟨rfl,(Option.some.inj h).symm⟩
  · rw[ze e]at h;exact .inr ⟨e,h⟩
theorem RowsQ.flatten{α:Type}{k:Nat}{f:α->List AV}{N:Store}{v:AV}{l:List α}(hs:∀x,∀y∈f x,∃u,y=AV.s u/\qc u=true)(h:RowsQ k f N v l):
    ∃N2,N.Le N2/\RowsQ k f N2 v l/\Bx v/\∀b x,N2.obj b=some x->Kh x:=by
  have none:v=.s (.slice none 0 0)/\l=[]\/(∃a,Gu a/\v=.s (.slice a 0 0)/\l=[])->∃N2,N.Le N2/\RowsQ k f N2 v l/\Bx v/\∀b x,N2.obj b=some x->Kh x:=λhh=>⟨Store.empty,⟨λb y hy=>(by cases hy),λb x hx=>(by cases hx)⟩,hh.elim (λe=>.inl (.inl e)) .inr,(by rcases hh with⟨rfl,_⟩|⟨a,_,rfl,_⟩<;>exact Fz _),λb x hx=>(by cases hx)⟩
  rcases h with(h|⟨b,cap,L,rfl,ho,h1,h2,h3⟩)|h
  · exact none (.inl h)
  · refine⟨Store.empty.sO b (.cells ((rws f l).flatten++List.replicate L.length .any)),⟨λb' y hy=>?_,λb x hx=>(by cases hx)⟩,.inl (.inr ⟨b,cap,List.replicate L.length .any,rfl,zc _ _ _,h1,by rw[Fbg];exact h2,h3⟩),Fz _,λb' x hx=>?_⟩
    · rcases O7 hy with⟨rfl,rfl⟩|⟨_,hy⟩
      · refine⟨_,ho,AObj.le_cells (by simp) λi x y hx hy=>?_⟩
        by_cases hi:i<(rws f l).flatten.length
        · rw[Fah hi]at hx hy
          rw[hx]at hy;cases hy;exact Tt
        · rw[Fau (Nat.le_of_not_lt hi)]at hy
          have:=(List.mem_replicate.1 (Fap hy)).2
          rw[this];exact AV.le_any _
      · cases hy
    · rcases O7 hx with⟨rfl,rfl⟩|⟨_,hx⟩
      · refine zve λy hy=>?_
        rcases Fai.1 hy with hy|hy
        · obtain⟨r,hr,hy⟩:=List.mem_flatten.1 hy
          obtain⟨a,_,rfl⟩:=Fad.1 hr
          obtain⟨u,rfl,_⟩:=hs a y hy
          exact Fz _
        · rw[(List.mem_replicate.1 hy).2];exact zvd
      · cases hx
  · exact none (.inr h)
theorem VRel.tup2{w:World}{T T':Nat->Nat->Prop}{a b a' b':AV}{v:Value}(h:VRel w T (.tup [a,b]) v)(ha:∀x,VRel w T a x->VRel w T' a' x)(hb:∀x,VRel w T b x->VRel w T' b' x):VRel w T' (.tup [a',b']) v:=by
  cases h with
  | tup _ c hl hc=>
    refine .tup _ c hl λi x y hx hy=>?_
    match i with
    |0=>cases hx;exact ha _ (hc 0 _ y rfl hy)
    |1=>cases hx;exact hb _ (hc 1 _ y rfl hy)
    |i+2=>cases hx
theorem zxu{W:World}{T T':Nat->Nat->Prop}{l l' r:List AV}{b:Nat}(hl:l.length=l'.length)(h:∀x,VRel W T (.agg l) x->VRel W T' (.agg l') x)(hr:∀y∈r,Bx y)(hc:CellsRel W T (l++r) b):CellsRel W T' (l'++r) b:=by
 obtain⟨c,e,fr,h1,h2,h3,h4⟩:=hc
 rw[Faj]at h3
 have hx:=h (.agg (c.extract 0 l.length)) (.agg _ _ (by simp;omega) λi x y hx hy=>by
  have hi:=(Fae.1 hx).1
  refine h4 i x y (by rw[Fah hi];exact hx) ?_
  rw[Array.getElem?_extract]at hy
  split at hy
  ·simpa using hy
  ·cases hy)
 cases hx with
 |agg _ _ hl2 hc2=>
  refine⟨c,e,fr,h1,h2,by rw[Faj];omega,λi x y hx hy=>?_⟩
  by_cases hi:i<l'.length
  ·rw[Fah hi]at hx
   refine hc2 i x y hx ?_
   rw[Array.getElem?_extract,if_pos (by omega)]
   simpa using hy
  ·rw[Fau (by omega)]at hx
   refine hr x (Fap hx) _ _ _ _ _ (h4 i x y ?_ hy)
   rw[Fau (by omega),hl]
   exact hx
theorem RowsQ.has{α:Type}{k:Nat}{f:α->List AV}{S:Store}{v:AV}{l:List α}(h:RowsQ k f S v l){b n c:Nat}(hv:v=.s (.slice (some ⟨b,0,none⟩) n c))(hc:0<c):S.has b:=by
 rcases h with(⟨rfl,_⟩|⟨b',cap,L,rfl,ho,_⟩)|⟨a,_,rfl,_⟩
 ·cases hv
 ·cases hv;exact xq ho
 ·cases hv;omega
def Store.objs0(S:Store):Store:=⟨S.obj,λ_=>none⟩
theorem ACalls.frozenEng{P:Program}{f:FuncId}{xs:List AV}{st0:Store}{Q:Ja}{R:Ja}(h:ACalls P f xs st0 Q)
  (hQ:∀r S,Q r S->R r Store.empty\/∃r2 X N eb raw plain p,zh X N/\¬X.has eb/\¬N.has eb/\S=(X.un N).sO eb (.cells (raw++[.s p]))/\raw.length=plain.length/\R r2 (N.objs0.sO eb (.cells (plain++[.s p])))∧
   ∀(Oth M:Nat->Nat->Prop) (W:World),StoreOK X Oth M W->(∀x,VRel W (λb o=>M b o\/Oth b o) (.agg raw) x->VRel W (λb o=>(M b o\/Oth b o)/\X.obj b=none) (.agg plain) x)∧
    ∀x,VRel W (λb o=>M b o\/Oth b o) r x->VRel W (λb o=>(M b o\/Oth b o)/\X.obj b=none) r2 x):ACalls P f xs st0 R:=by
 refine h.frozenLe ?_
 intro r S hq
 rcases hQ r S hq with hR|⟨r2,X,N,eb,raw,plain,p,hd,hx,hn,rfl,hl,hR,hb⟩
 ·exact⟨r,Store.empty,hR,λb x hx=>(by cases hx),λb x hx=>(by cases hx),λOth M w sto=>⟨λb x hx=>(by cases hx),λv hv=>hv.mono λb o h=>h.1⟩⟩
 have hS2:∀b x,(N.objs0.sO eb (.cells (plain++[.s p]))).obj b=some x->(b=eb/\x=.cells (plain++[.s p]))\/(b≠eb/\N.obj b=some x):=λb x hx=>O7 hx
 refine⟨r2,_,hR,λb x hx=>?_,λb x hx=>(by cases hx),λOth M w sto=>?_⟩
 ·rcases hS2 b x hx with⟨rfl,rfl⟩|⟨h1,h2⟩
  ·rw[zc];simp
  ·rw[ze h1,zd h2];simp
 have sX:StoreOK X Oth M w:=sto.weaken ⟨λb y hy=>by
  have e:b≠eb:=λe=>hx (by rw[<-e];exact xq hy)
  rw[ze e];exact yn hd hy,λb y hy=>H8 hd hy⟩
 obtain⟨k1,k2⟩:=hb Oth M w sX
 have hT:∀b o,((M b o\/Oth b o)/\(((X.un N).sO eb (.cells (raw++[.s p]))).obj b=none\/(N.objs0.sO eb (.cells (plain++[.s p]))).obj b≠none))->(M b o\/Oth b o)/\X.obj b=none:=λb o ⟨h1,h2⟩=>by
  refine⟨h1,?_⟩
  by_cases e:b=eb
  ·subst e;exact(vo hx).1
  ·rw[ze e,ze e]at h2
   cases hxb:X.obj b with
   |none=>rfl
   |some y=>
    rcases h2 with h2|h2
    ·rw[yn hd hxb]at h2;cases h2
    ·exact absurd (vo (hd b (xq hxb))).1 h2
 refine⟨λb x hx2=>?_,λv hv=>(k2 v hv).mono hT⟩
 rcases hS2 b x hx2 with⟨rfl,rfl⟩|⟨h1,h2⟩
 ·have ho:=(sto.obj b _ (zc _ _ _)).1
  have:=zxu hl k1 (λy hy=>by rw[Fb3.1 hy];exact Fz p) ho
  exact ObjRel.mono hT (show ObjRel w (λb o=>(M b o\/Oth b o)/\X.obj b=none) (.cells (plain++[.s p])) b from this)
 ·exact(sto.obj b x (by rw[ze h1];exact zd h2)).1.mono λb o h=>h.1
section
variable {P:Program} {c:Cfg} {w:World} {st:Store} {Oth M:Nat->Nat->Prop}
theorem zzl{o:Oper}{t:TypeId}{x:Operand}(ho:o.op=.makeInterface t x){d:TypeDesc}(hd:yf P c.I->P.underlying t=some d)(hn:∀m,d≠.interface m){y:AV}{u:Value}
    (hy:∀(w:World) (T:Nat->Nat->Prop) (v:Value),VRel w T y v->v=u) {R:Ja} (h:R (.s (.iface t u)) st):AEff P c o [y] st R:=by
  refine⟨λOth M w ρ hI sto hr=>?_⟩
  rw[ho]at hr
  have hr:Reads w (λb o=>M b o\/Oth b o) [y] [ρ x]:=by simpa [Op.operands]using hr
  obtain⟨v,he,h1⟩:=Iu hr
  simp only[Fcp,and_true]at he
  rw[<-he]at h1
  have h1:=hy _ _ _ h1
  have hund:=zy (P:=P) (hd hI)
  have hrun:(execOp ρ o).run P w=.ok (.value (.iface t u)) w:=by
    simp only[execOp,ho,Instr.makeInterface,Sem.run_bind,hund,Result.andThen_ok,h1]
    cases d<;>simp at hn⊢
  rw[hrun]
  exact⟨_,_,_,h,.s _,sto,Chg.refl M w⟩
theorem zzk{o:Oper}{t:TypeId}{x:Operand}(ho:o.op=.makeInterface t x){it:TI}{e:TypeId}(hit:c.I t=some it)(hty:it.ty=.ptr e){u:Value}{R:Ja}(h:R (.s (.iface t u)) st):AEff P c o [.s u] st R:=
  zzl ho (λhI=>K7 (hI _ _ hit) hty) (λm h=>by cases h) (λw T v hv=>VRel.eq_s hv) h
end
section
variable {P:Program} {v:Value} {x:AV}
theorem bj{t:TypeId}{inf:TypeInfo}(h:P.info? t=some inf)(w:World):(typeInfo t).run P w=.ok inf w:=by
  simp[typeInfo,run_program,h]
theorem Meets.val{t:TypeId}{m:String}{g:FuncId}{inf:TypeInfo}{row:Method}{d:TypeDesc}(hi:P.info? t=some inf)(hf:inf.methods.find? (·.name==m)=some row)(hp:row.path=#[])
    (hr:row.func=some (g,false)) (hu:P.underlying t=some d) (hd:∀e,d≠.pointer e) (hx:∀w T,VRel w T x v):Meets P t v m g x:=by
  refine⟨v,λw=>?_,hx⟩
  have hdep:P.types.size+Made.depth=(P.types.size+99)+1:=rfl
  rw[hdep]
  generalize P.types.size+99=n
  have e:row.path.toList=[]:=by rw[hp]
  unfold method
  rw[Sem.run_bind,bj hi,Result.andThen_ok,hf]
  dsimp only
  rw[e]
  unfold follow
  rw[Sem.run_bind,Sem.run_pure,Result.andThen_ok]
  dsimp only
  rw[hr]
  dsimp only
  unfold receiverAt
  cases d<;>simp[zy hu,Place.get]at hd⊢
theorem Meets.ptr{t:TypeId}{m:String}{g:FuncId}{inf:TypeInfo}{row:Method}{e:TypeId}(hi:P.info? t=some inf)(hf:inf.methods.find? (·.name==m)=some row)(hp:row.path=#[])
    (hr:row.func=some (g,true)) (hu:P.underlying t=some (.pointer e)) (hx:∀w T,VRel w T x v):Meets P t v m g x:=by
  refine⟨v,λw=>?_,hx⟩
  have hdep:P.types.size+Made.depth=(P.types.size+99)+1:=rfl
  rw[hdep]
  generalize P.types.size+99=n
  have e:row.path.toList=[]:=by rw[hp]
  unfold method
  rw[Sem.run_bind,bj hi,Result.andThen_ok,hf]
  dsimp only
  rw[e]
  unfold follow
  rw[Sem.run_bind,Sem.run_pure,Result.andThen_ok]
  dsimp only
  rw[hr]
  dsimp only
  unfold receiverAt
  simp[zy hu,Place.get]
def I2(P:Program)(t:TypeId)(m:String)(g:FuncId)(ptr:Bool):Bool:=
  match P.info? t,P.underlying t with
  | some inf,some d=>(match inf.methods.find? (·.name==m)with
    |some row=>row.path.isEmpty&&(match row.func with|some (f,b)=>Nat.beq f g&&(b==ptr)|none=>false)
    |none=>false)&&(match d with|.pointer _=>ptr|_=> !ptr)
  |_,_=>false
theorem zr5{t:TypeId}{m:String}{g:FuncId}{ptr:Bool}(h:I2 P t m g ptr=true):∃inf row d,P.info? t=some inf/\inf.methods.find? (·.name==m)=some row/\row.path=#[]/\row.func=some (g,ptr)/\P.underlying t=some d/\(match d with|.pointer _=>ptr|_=> !ptr)=true:=by
  unfold I2 at h
  split at h
  · rename_i inf d h1 h2
    rw[Faw]at h
    obtain⟨h3,h4⟩:=h
    split at h3
    · rename_i row h5
      rw[Faw]at h3
      obtain⟨h6,h7⟩:=h3
      split at h7
      · rename_i f b h8
        rw[Faw]at h7
        obtain⟨h9,h10⟩:=h7
        have e1:f=g:=Nat.eq_of_beq_eq_true h9
        have e2:b=ptr:=eq_of_beq h10
        subst e1 e2
        exact⟨inf,row,d,h1,h5,Array.isEmpty_iff.1 h6,h8,h2,h4⟩
      · cases h7
    · cases h3
  · cases h
theorem Meets.ptrB{t:TypeId}{m:String}{g:FuncId}(h:I2 P t m g true=true)(hx:∀w T,VRel w T x v):Meets P t v m g x:=by
  obtain⟨inf,row,d,h1,h2,h3,h4,h5,h6⟩:=zr5 h
  cases d with
  |pointer e=>exact Meets.ptr h1 h2 h3 h4 h5 hx
  |_=>cases h6
end
def kj(v:Vc):Prop:=(-1099511627776<=v.1/\v.1<=1099511627776)/\(-1099511627776<=v.2/\v.2<=1099511627776)
theorem D7{v:Vc}(h:kj v):j9 v:=by unfold kj at h;unfold j9;omega
theorem rj{v:Vc}(h:kj v):v.ok:=by
 unfold kj at h
 exact⟨⟨by omega,by omega⟩,⟨by omega,by omega⟩⟩
theorem K3{p q:Vc}(hp:qg p)(hq:qg q):kj (qf q p):=by
 rw[(N8 hp hq).1]
 unfold qg at hp hq
 unfold kj
 dsimp only
 omega
theorem ztl{w:Wld}{u:Unt}(hu:qg u.pos)(h:∀x∈w.U,x.inn=0->qg x.pos)(hl:w.U.length<=4096):kj (Dl w u):=by
 have key:∀(l:List Unt) (v:Vc) (B:Nat),(∀x∈l,x.inn=0->qg x.pos)->B+l.length<=4096->(v.1.natAbs<=B*16777216/\v.2.natAbs<=B*16777216)->
   kj (l.foldl (λv x=>if x.inn=0/\x.id≠u.id then q9 v (ka u.pos (zq u.kind+zq x.kind+16384) x.pos)else v) v):=by
  intro l
  induction l with
  |nil=>
   intro v B _ hB hv
   unfold kj
   simp only[List.length_nil]at hB
   simp only[List.foldl_nil]
   omega
  |cons x l ih=>
   intro v B hx hB hv
   simp only[Fbc]at hB
   rw[Fce]
   refine ih _ (B+1) (λy hy=>hx y (Faz _ hy)) (by omega) ?_
   split
   ·rename_i hc
    have r1:=Ff u.kind
    have r2:=Ff x.kind
    have:=Po hu (hx x Fbd hc.1) (r:=zq u.kind+zq x.kind+16384) (by omega)
    generalize ka u.pos (zq u.kind+zq x.kind+16384) x.pos=z at*
    have e:q9 v z=(v.1+z.1,v.2+z.2):=by
     unfold q9
     rw[Kl (by omega) (by omega),Kl (by omega) (by omega)]
    rw[e]
    dsimp only
    omega
   ·exact⟨Fdc hv.1 (Fa3 _ (Fdn B)),Fdc hv.2 (Fa3 _ (Fdn B))⟩
 unfold Dl
 refine key w.U (0,0) 0 h (by omega) ⟨?_,?_⟩
 ·show(0:Int).natAbs<=_;simp
 ·show(0:Int).natAbs<=_;simp
section
variable {u:Unt} {w:Wld} {n k:Nat}
theorem ic:∀{a b:List Unt},(a.map (·.id)).Pairwise (·<·)->(b.map (·.id)).Pairwise (·<·)->(∀u,u∈a↔u∈b)->a=b
 |[],[],_,_,_=>rfl
 |[],y::b,_,_,h=>absurd ((h y).2 Fbd) (by simp)
 |x::a,[],_,_,h=>absurd ((h x).1 Fbd) (by simp)
 |x::a,y::b,ha,hb,h=>by
  rw[Fb0,Fct]at ha hb
  have hx:=(h x).1 Fbd
  have hy:=(h y).2 Fbd
  have e:x=y:=by
   rcases Fas.1 hx with e|hx
   ·exact e
   ·rcases Fas.1 hy with e|hy
    ·exact e.symm
    ·have h1:=hb.1 _ (Fad.2 ⟨x,hx,rfl⟩)
     have h2:=ha.1 _ (Fad.2 ⟨y,hy,rfl⟩)
     omega
  subst e
  refine congrArg _ (ic ha.2 hb.2 λu=>⟨λhu=>?_,λhu=>?_⟩)
  ·rcases Fas.1 ((h u).1 (Faz _ hu))with e|e
   ·have:=ha.1 _ (Fad.2 ⟨u,hu,rfl⟩)
    rw[e]at this
    omega
   ·exact e
  ·rcases Fas.1 ((h u).2 (Faz _ hu))with e|e
   ·have:=hb.1 _ (Fad.2 ⟨u,hu,rfl⟩)
    rw[e]at this
    omega
   ·exact e
def nV(v:Vc):Prop:=(-9223372036854775807<=v.1/\v.1<=9223372036854775807)/\(-9223372036854775807<=v.2/\v.2<=9223372036854775807)
theorem dt(a b:Vc):nV (q9 a b):=⟨F0 _ _,F0 _ _⟩
theorem P5{v:Vc}(h:nV v):v.ok:=by
 unfold nV at h
 exact⟨⟨by omega,by omega⟩,⟨by omega,by omega⟩⟩
theorem g9{a:Int}(h:-9223372036854775807<=a/\a<=9223372036854775807):yq a 0=a:=by
 unfold yq
 rw[xj (by omega),xj (by omega)]
 unfold jg
 split
 ·omega
 ·split<;>omega
theorem o7{v:Vc}(h:nV v):q9 v (0,0)=v:=by
 unfold q9
 rw[g9 h.1,g9 h.2]
def jx(u:Unt)(v:Vc)(x:Unt):Vc:=if x.id≠u.id then q9 v (ka u.pos (zq u.kind+zq x.kind+16384) x.pos)else v
theorem dr{x:Unt}{v:Vc}(h:nV v):nV (jx u v x):=by
 unfold jx
 split
 ·exact dt _ _
 ·exact h
theorem dq:∀(l:List Unt) {v:Vc},nV v->nV (l.foldl (jx u) v)
 |[],_,h=>h
 |x::l,_,h=>dq l (dr h)
theorem zqm{p q:Vc}{r:Int}(h:near p q r=false):ka p r q=(0,0):=by
 unfold ka
 rw[h]
 simp
theorem Mn(u:Unt)(r:Int)(hr:∀k,zq u.kind+zq k+16384<=r):∀(l:List Unt) (v:Vc),nV v->
  l.foldl (λv x=>if x.inn=0/\x.id≠u.id then q9 v (ka u.pos (zq u.kind+zq x.kind+16384) x.pos)else v) v=(l.filter λx=>decide (x.inn=0)&&near u.pos x.pos r).foldl (jx u) v
 |[],v,_=>rfl
 |x::l,v,h=>by
  rw[Fce,Fck]
  by_cases h0:x.inn=0
  ·cases hn:near u.pos x.pos r with
   |true=>
    simp only[h0,decide_true,Bool.and_self,if_true,Fce,true_and]
    exact Mn u r hr l _ (dr h)
   |false=>
    have hf:near u.pos x.pos (zq u.kind+zq x.kind+16384)=false:=by
     cases hc:near u.pos x.pos (zq u.kind+zq x.kind+16384)with
     |false=>rfl
     |true=>rw[dm (hr x.kind) hc]at hn;cases hn
    simp only[h0,decide_true,Bool.and_false,Fag,if_false,true_and]
    rw[zqm hf,o7 h,ite_self]
    exact Mn u r hr l _ h
  ·simp only[h0,decide_false,Bool.false_and,Fag,if_false,false_and]
   exact Mn u r hr l _ h
theorem ztk(hr:yh w.U){us:List Unt}(hn:Fl w u.pos (zq u.kind+16384+81920) us)(hs:(us.map (·.id)).Pairwise (·<·)):Dl w u=us.foldl (jx u) (0,0):=by
 unfold Dl
 rw[Mn u (zq u.kind+16384+81920) (λk=>by have:=(Di k).2;omega) w.U (0,0) ⟨⟨by decide,by decide⟩,⟨by decide,by decide⟩⟩]
 congr 1
 refine ic ?_ hs λx=>?_
 ·have:(w.U.map (·.id)).Pairwise (·<·):=by
   rw[Fcc]
   intro i j hi hj hij
   rw[Fa5]at hi hj
   simp only[Fcj]
   exact Iq hr hij hj
  exact this.sublist (List.filter_sublist.map _)
 ·rw[Fbo,hn x,Faw,decide_eq_true_iff]
  constructor
  ·rintro⟨h1,h2,h3⟩;exact⟨⟨h1,h2⟩,h3⟩
  ·rintro⟨⟨h1,h2⟩,h3⟩;exact⟨h1,h2,h3⟩
theorem ztt{v:Vc}(h:nV v)(k:Nat):nV (vw v k):=by
 obtain⟨h1,h2⟩:=h
 have e1:=fx v.1 k
 have e2:=fx v.2 k
 unfold nV vw
 dsimp only
 omega
theorem ow{v:Vc}(h:v.ok):nV (xx v):=by
 obtain⟨h1,h2⟩:=h
 have e1:=vn h1
 have e2:=vn h2
 unfold nV xx
 dsimp only
 omega
theorem ra{v:Vc}(h0:vw v k≠(0,0))(hc:¬qv w u.id u.kind (q9 u.pos (vw v k))):j7 w u v (n+1) k=j7 w u v n (k+1):=by
 show(if _ then _ else if _ then _ else _)=_
 rw[if_neg h0,if_neg hc]
theorem p8{v:Vc}(h0:vw v k=(0,0)):j7 w u v (n+1) k=none:=by
 show(if _ then _ else if _ then _ else _)=_
 rw[if_pos h0]
theorem p9{v:Vc}(h0:vw v k≠(0,0))(hc:qv w u.id u.kind (q9 u.pos (vw v k))):j7 w u v (n+1) k=some (k,q9 u.pos (vw v k)):=by
 show(if _ then _ else if _ then _ else _)=_
 rw[if_neg h0,if_pos hc]
theorem zmw(hk:k<5):IntKind.i64.wrap (1*2^(min ((k:Int)).toNat IntKind.i64.bits))=((2^k:Nat):Int):=by
 have:k=0\/k=1\/k=2\/k=3\/k=4:=by omega
 rcases this with rfl|rfl|rfl|rfl|rfl<;>decide
end
section
variable {u n t:Nat} {x:Int}
def jv:Nat->(Nat->Nat)->Nat
 |0,_=>0
 |n+1,f=>jv n f+f n
theorem O2{f g:Nat->Nat}:∀n,(∀t,t<n->f t=g t)->jv n f=jv n g
 |0,_=>rfl
 |n+1,h=>by
  show jv n f+f n=jv n g+g n
  rw[O2 n (λt ht=>h t (by omega)),h n (by omega)]
theorem Oz{f g:Nat->Nat}:∀n,(∀t,t<n->f t<=g t)->jv n f<=jv n g
 |0,_=>Fak _
 |n+1,h=>by
  show jv n f+f n<=jv n g+g n
  have:=Oz n (λt ht=>h t (by omega))
  have:=h n (by omega)
  omega
theorem O0(c:Nat):∀n,jv n (λ_=>c)=n*c
 |0=>by simp[jv]
 |n+1=>by
  show jv n (λ_=>c)+c=_
  rw[O0 c n,Fds]
theorem Lg{f g:Nat->Nat}:∀n,u<n->(∀t,t<n->t≠u->f t=g t)->jv n f+g u=jv n g+f u
 |0,hu,_=>by omega
 |n+1,hu,h=>by
  show jv n f+f n+g u=jv n g+g n+f u
  by_cases e:u=n
  ·subst e
   rw[O2 u (λt ht=>h t (by omega) (by omega))]
   omega
  ·have:=Lg (f:=f) (g:=g) n (by omega) (λt ht hne=>h t (by omega) hne)
   have:=h n (by omega) (Ne.symm e)
   omega
def Al(n:Nat)(d:Nat->Int):Nat:=jv n λt=>if 0<=d t then 1 else 0
theorem rh(n:Nat)(d:Nat->Int):Al n d<=n:=by
 have:=Oz (f:=λt=>if 0<=d t then 1 else 0) (g:=λ_=>1) n (λt _=>by split<;>omega)
 rw[O0]at this
 unfold Al
 omega
theorem rg{d:Nat->Int}(hu:u<n)(h:d u<0)(hx:0<=x):Al n (yi d u x)=Al n d+1:=by
 have:=Lg (f:=λt=>if 0<=yi d u x t then 1 else 0) (g:=λt=>if 0<=d t then 1 else 0) n hu (λt _ hne=>by simp only[xg hne])
 simp only[kx,if_pos hx,if_neg (show¬0<=d u by omega)]at this
 unfold Al
 omega
theorem rf{d:Nat->Int}(h:0<=d u)(hx:0<=x):Al n (yi d u x)=Al n d:=by
 unfold Al
 refine O2 n λt _=>?_
 by_cases e:t=u
 ·subst e;rw[kx,if_pos hx,if_pos h]
 ·rw[xg e]
def F7(n:Nat)(d:Nat->Int):Prop:=∀t,d t<=84*(Al n d:Int)-84\/d t<0
theorem zw5{goal:Nat}(hg:goal<n){d:Nat->Int}(hd:∀u,d u=if u=goal then 0 else -1):F7 n d:=by
 intro t
 have h1:1<=Al n d:=by
  have:=Lg (f:=λt=>if 0<=d t then 1 else 0) (g:=λt=>if t=goal then 0 else if 0<=d t then 1 else 0) n hg (λt _ hne=>by rw[if_neg hne])
  have h0:(if 0<=d goal then 1 else 0)=1:=by rw[hd,if_pos rfl];rfl
  simp only[if_true,h0]at this
  unfold Al
  omega
 rw[hd]
 split
 ·left;omega
 ·right;omega
theorem lb{d:Nat->Int}(h:F7 n d){c:Int}(hu:u<n)(ht:0<=d t)(hc:0<c/\c<=84)(hl:d u<0\/d t+c<d u):F7 n (yi d u (d t+c)):=by
 have hdt:=h t
 by_cases hn:d u<0
 ·have e:=rg (n:=n) hu hn (show 0<=d t+c by omega)
  intro v
  rw[e]
  by_cases ev:v=u
  ·subst ev;rw[kx];omega
  ·rw[xg ev]
   have:=h v
   omega
 ·have e:=rf (n:=n) (d:=d) (u:=u) (by omega) (show 0<=d t+c by omega)
  intro v
  rw[e]
  by_cases ev:v=u
  ·subst ev;rw[kx]
   have:=h v
   omega
  ·rw[xg ev];exact h v
theorem Sk{d:Nat->Int}(h:F7 n d)(t:Nat):d t<=84*(n:Int):=by
 have:=h t
 have:=rh n d
 omega
def Ao(n:Nat)(dn:Nat->Bool):Nat:=jv n λt=>if dn t then 0 else 1
theorem zq2{dn:Nat->Bool}(ht:t<n)(h:dn t=false):Ao n (yi dn t true)+1=Ao n dn:=by
 have:=Lg (f:=λv=>if yi dn t true v=true then 0 else 1) (g:=λv=>if dn v=true then 0 else 1) n ht (λv _ hne=>by simp only[xg hne])
 simp only[kx,h,if_true,Fag,if_false]at this
 unfold Ao
 omega
end
section
variable {i n k:Nat}
theorem zp7{l:List (Int×Int)}(h:jh l)(x:Int×Int):UpF (qat (l++[x])) (l++[x]).length l.length:=by
 have h2:Ge (qat (l++[x])) l.length:=λj h0 hj=>by
  rw[cg l x j hj,cg l x (par j) (by have:=vm h0;omega)]
  exact h j h0 hj
 have:=o9 h2
 simpa using this
theorem zp4{l:List (Int×Int)}(h:UpF (qat l) l.length i)(h0:0<i)(hi:i<l.length)(hl:qlt (qat l i) (qat l (par i))):
  UpF (qat (jb l i (par i))) (jb l i (par i)).length (par i)/\(jb l i (par i)).Perm l:=by
 have hp:=vm h0
 rw[ce hi (by omega),Gs]
 exact⟨o8 h h0 hi hl,Wj hi (by omega)⟩
theorem b8{l:List (Int×Int)}(h:UpF (qat l) l.length i)(hi:i=0\/¬qlt (qat l i) (qat l (par i))):jh l:=pd h hi
theorem zp6(l:List (Int×Int))(x:Int×Int):(l++[x]).Perm (x::l):=List.perm_append_singleton x l
theorem zp9{l:List (Int×Int)}(hl:l.length=n+1):l.Perm (qat l 0::(l.set 0 (qat l n)).take n):=by
 obtain⟨a,t,rfl⟩:∃a t,l=a::t:=by
  cases l with
  |nil=>simp at hl
  |cons a t=>exact⟨a,t,rfl⟩
 simp only[Fbc,Nat.add_right_cancel_iff]at hl
 have e0:qat (a::t) 0=a:=rfl
 rw[e0]
 refine List.Perm.cons a ?_
 cases n with
 |zero=>
  have:t=[]:=Fav hl
  subst this
  simp
 |succ n=>
  have e1:qat (a::t) (n+1)=t[n]'(by omega):=by
   rw[Ix (by simp;omega)]
   rfl
  rw[e1]
  show t.Perm ((t[n]'(by omega)::t).take (n+1))
  rw[List.take_succ_cons]
  have e2:t=t.take n++[t[n]'(by omega)]:=by
   have h1:=Fcd n t
   have h2:t.drop n=[t[n]'(by omega)]:=by
    rw[List.drop_eq_getElem_cons (by omega),List.drop_eq_nil_of_le (by omega)]
   rw[h2]at h1
   exact h1.symm
  exact(List.Perm.of_eq e2).trans (List.perm_append_singleton _ _)
theorem zqb{l:List (Int×Int)}(hl:l.length=n+1)(h:jh l):Cw (qat ((l.set 0 (qat l n)).take n)) ((l.set 0 (qat l n)).take n).length 0:=by
 have hlen:((l.set 0 (qat l n)).take n).length=n:=by simp;omega
 rw[hlen]
 have h2:Ge (qat l) (n+1):=by rw[<-hl];exact h
 have key:∀j,0<j->j<n->qat ((l.set 0 (qat l n)).take n) j=qat l j:=λj h0 hj=>by
  unfold qat
  simp only[List.getD,Fbw hj]
  rw[Fc9 (by omega)]
 refine⟨λj h0 hj hp=>?_,λj h0 hj hp h1=>by omega⟩
 rw[key j h0 hj,key (par j) (by omega) (by have:=vm h0;omega)]
 exact h2 j h0 (by omega)
theorem zqa{l:List (Int×Int)}(h:jh l):∀e∈l,¬qlt e (qat l 0):=λe he=>by
 obtain⟨j,hj,rfl⟩:=Fan he
 rw[<-Ix hj]
 exact zts h j hj
theorem zqc{l:List (Int×Int)}(h:Cw (qat l) l.length i)(hc:l.length<=2*i+1):jh l:=
 ip h λj h0 hj hp=>by
  rcases(Iz h0).1 hp with e|e<;>omega
theorem Pi{l:List (Int×Int)}(h:Cw (qat l) l.length i)(hk:∀j,0<j->j<l.length->par j=i->¬qlt (qat l j) (qat l k))(hs:¬qlt (qat l k) (qat l i)):jh l:=
 ip h λj h0 hj hp=>Ls hs (hk j h0 hj hp)
theorem Pj{l:List (Int×Int)}(h:Cw (qat l) l.length i)(hk0:0<k)(hk:k<l.length)(hki:par k=i)(hmin:∀j,0<j->j<l.length->par j=i->¬qlt (qat l j) (qat l k))(hl:qlt (qat l k) (qat l i)):
  Cw (qat (jb l i k)) (jb l i k).length k/\(jb l i k).Perm l:=by
 have hp:=vm hk0
 rw[ce (by omega) hk,Gs]
 exact⟨zv9 h hk0 hk hki hmin hl,Wj (by omega) hk⟩
theorem So{f:Nat->Int×Int}(hk:k=2*i+1/\(2*i+2<n->¬qlt (f (2*i+2)) (f (2*i+1)))\/k=2*i+2/\qlt (f (2*i+2)) (f (2*i+1))):∀j,0<j->j<n->par j=i->¬qlt (f j) (f k):=by
 intro j h0 hj hp
 rcases(Iz h0).1 hp with e|e
 ·subst e
  rcases hk with⟨rfl,_⟩|⟨rfl,h2⟩
  ·exact Pm _
  ·exact Lt h2
 ·subst e
  rcases hk with⟨rfl,h1⟩|⟨rfl,h2⟩
  ·exact h1 hj
  ·exact Pm _
end
section
variable {F:Store} {p i b cap:Nat}
def itC(x:Int×Int):List AV:=[int x.1,int x.2]
theorem Fv(x:Int×Int):(itC x).length=2:=rfl
structure QAt(F:Store)(p b cap:Nat)(l:List (Int×Int))(L:List AV):Prop where
 hp:F.obj p=some (.cells [.s (.slice (some ⟨b,0,none⟩) l.length cap)])
 hb:F.obj b=some (.cells ((rws itC l).flatten++L))
 ne:b≠p
 h1:l.length<=cap
 h2:cap*2<=l.length*2+L.length
 h3:cap<=9223372036854775807
def QOf(F:Store)(p:Nat)(l:List (Int×Int)):Prop:=(F.obj p=some (.cells [.s (.slice none 0 0)])/\l=[])\/∃b cap L,QAt F p b cap l L
theorem QOf.rows{l:List (Int×Int)}(h:QOf F p l):∃v,F.obj p=some (.cells [v])/\RowsO 2 itC F v l/\∀b c0,v=.s (.slice (some ⟨b,0,none⟩) l.length c0)->b≠p:=by
 rcases h with⟨h,rfl⟩|⟨b,cap,L,h⟩
 ·exact⟨_,h,.inl ⟨rfl,rfl⟩,λb c0 e=>by simp at e⟩
 ·refine⟨_,h.hp,.inr ⟨b,cap,L,rfl,h.hb,h.h1,h.h2,h.h3⟩,λb' c0 e=>?_⟩
  simp only[AV.s.injEq,Value.slice.injEq,Faf,Addr.mk.injEq]at e
  exact e.1.1▸h.ne
theorem QOf.pos{l:List (Int×Int)}(h:QOf F p l)(hl:0<l.length):∃b cap L,QAt F p b cap l L:=by
 rcases h with⟨h,rfl⟩|h
 ·exact absurd hl (Nat.lt_irrefl 0)
 ·exact h
theorem zsw{l:List (Int×Int)}(hi:i<l.length)(x:Int×Int)(L:List AV):zv ((rws itC l).flatten++L) (0+i*2) (itC x)=(rws itC (l.set i x)).flatten++L:=by
 have:=O5 (f:=itC) (k:=2) Fv hi (j:=0) (x':=x) (ys:=itC x) (L:=L) (by show 0+2<=2;omega) (by
  unfold zv
  rw[Fv]
  rfl)
 rw[Nat.add_zero]at this
 rw[Fbf]
 exact this
theorem jd{l:List (Int×Int)}{L:List AV}(hi:i<l.length):List.drop (0+i*2) ((rws itC l).flatten++L)=itC (qat l i)++((rws itC (l.drop (i+1))).flatten++L):=by
 have h1:(rws itC (l.take i)).flatten.length=i*2:=by rw[Cf Fv,Fat,Nat.min_eq_left (by omega)]
 rw[Fbf,Lm hi,Fa1,<-h1,List.drop_left,Fa1,Ix hi]
theorem Cl{l:List (Int×Int)}{L:List AV}(hi:i<l.length)(x:Int×Int):0+i*2+(itC x).length<=((rws itC l).flatten++L).length:=by
 rw[Faj,Cf Fv,Fv]
 omega
theorem QAt.set{l:List (Int×Int)}{L:List AV}(h:QAt F p b cap l L)(hi:i<l.length)(x:Int×Int):QAt (F.sO b (.cells (zv ((rws itC l).flatten++L) (0+i*2) (itC x)))) p b cap (l.set i x) L:=by
 rw[zsw hi]
 exact⟨by rw[ze (Ne.symm h.ne),Fa4];exact h.hp,zc _ _ _,h.ne,by rw[Fa4];exact h.h1,by rw[Fa4];exact h.h2,h.h3⟩
theorem QAt.cut{l:List (Int×Int)}{L:List AV}(h:QAt F p b cap l L){n:Nat}(hn:n<=l.length):QAt (F.sO p (.cells [.s (.slice (some ⟨b,0,none⟩) n cap)])) p b cap (l.take n) ((rws itC (l.drop n)).flatten++L):=by
 have e:(rws itC (l.take n)).flatten++((rws itC (l.drop n)).flatten++L)=(rws itC l).flatten++L:=by
  rw[<-Fa1,<-Ln,Fcd]
 have hl:(l.take n).length=n:=by rw[Fat];omega
 refine⟨by rw[zc,hl],by rw[ze h.ne,e];exact h.hb,h.ne,by rw[hl];have:=h.h1;omega,?_,h.h3⟩
 have:=h.h2
 rw[hl,Faj,Cf Fv,Fdv]
 omega
end
section
variable {i:Nat}
def kh(v:Int)(k:Nat)(t:Nat):Int:=if t<k then v else 0
theorem zpz{n k m:Nat}{v:Int}(hk:m<=k)(hn:k+m<=n):zv (il n (kh v k)) (0+k*1) ((List.drop (0+0*1) (il n (kh v k))).take (m*1))=il n (kh v (k+m)):=by
 have e:(List.drop (0+0*1) (il n (kh v k))).take (m*1)=List.replicate m (int v):=by
  rw[show 0+0*1=0 from rfl,Fb8,Fd9]
  apply Fed
  ·rw[Fat,qi,Fbg];omega
  ·intro i h1 h2
   rw[Fbg]at h2
   rw[Fc6,List.getElem_replicate]
   simp only[il,Fcj,List.getElem_range]
   rw[kh,if_pos (by omega)]
 rw[e]
 unfold zv
 rw[Fbg,show 0+k*1=k by omega]
 apply Fb2
 intro i
 by_cases h1:i<k
 ·rw[Fa1,Fah (by rw[Fat,qi];omega),Fbw h1,Ay (by omega),Ay (by omega),kh,kh,if_pos h1,if_pos (by omega)]
 ·by_cases h2:i<k+m
  ·rw[Fa1,Fau (by rw[Fat,qi];omega),Fat,qi,Fah (by rw[Fbg];omega),Fb1,if_pos (by omega),Ay (by omega),kh,if_pos h2]
  ·rw[Fau (by rw[Faj,Fat,qi,Fbg];omega),Faj,Fat,qi,Fbg,Fca,show k+m+(i-(min k n+m))=i by omega]
   by_cases h3:i<n
   ·rw[Ay h3,Ay h3,kh,kh,if_neg h1,if_neg h2]
   ·rw[Fbi (by rw[qi];omega),Fbi (by rw[qi];omega)]
theorem zth(n:Nat)(v:Int):il n (kh v n)=il n λ_=>v:=I8 λt ht=>if_pos ht
def Hy(g:Gnd)(t:Nat):AV:=.agg (il 8 (zz g t))
def Bc(g:Gnd)(t i:Nat)(j:Nat):Int:=if j<i then zz g t j else 0
theorem zyo(g:Gnd)(t:Nat):il 8 (Bc g t 8)=il 8 (zz g t):=I8 λj hj=>if_pos hj
theorem zyp(g:Gnd)(t:Nat)(hi:i<8):zz g t i=Fm g ((t:Int)%g.W) ((t:Int)/g.W) (dirL.getD i (0,0)):=by
 unfold zz Bp
 rw[Fa6,Fam,Fa6,Faa (show i<dirL.length from hi)]
 rfl
theorem zyn(g:Gnd)(t:Nat)(v:Int)(hv:v=zz g t i):setI (Bc g t i) i v=Bc g t (i+1):=funext λj=>by
 unfold setI Bc
 by_cases h:j=i
 ·subst h
  rw[if_pos rfl,if_pos (by omega),hv]
 ·rw[if_neg h]
  by_cases h2:j<i
  ·rw[if_pos h2,if_pos (by omega)]
  ·rw[if_neg h2,if_neg (by omega)]
def dirC:List AV:=(dirL.map D2).flatten
theorem zwq(hi:i<8):dirC.drop (i*2)=D2 (dirL.getD i (0,0))++dirC.drop (i*2+2):=by
 have h:i=0\/i=1\/i=2\/i=3\/i=4\/i=5\/i=6\/i=7:=by omega
 rcases h with rfl|rfl|rfl|rfl|rfl|rfl|rfl|rfl<;>rfl
theorem zwp(hi:i<8):(-1<=(dirL.getD i (0,0)).1/\(dirL.getD i (0,0)).1<=1)/\-1<=(dirL.getD i (0,0)).2/\(dirL.getD i (0,0)).2<=1:=by
 have h:i=0\/i=1\/i=2\/i=3\/i=4\/i=5\/i=6\/i=7:=by omega
 rcases h with rfl|rfl|rfl|rfl|rfl|rfl|rfl|rfl<;>decide
end
def Gi(g:Gnd)(ok:Nat->Bool)(c:Int)(t i:Nat):Nat->Nat->Int->Prop:=λa u k=>a=t/\∃w,i<=w/\w<8/\zz g t w=(u:Int)/\k=qa g ok c t w
theorem Sc{E:Nat->Nat->Int->Prop}{n goal:Nat}{d:Nat->Int}{dn:Nat->Bool}{q q':List (Int×Int)}{cur:Int}{O:Nat->Nat->Int->Prop}(h:DJ E n goal d dn q cur O)(hp:q.Perm q'):DJ E n goal d dn q' cur O:=
 ⟨h.lab,h.gl,h.pre,h.rel,h.mono,λe he=>h.ent e (hp.mem_iff.2 he),λu hu hn=>hp.mem_iff.1 (h.wait u hu hn)⟩
section
variable {g:Gnd} {ok:Nat->Bool} {c:Int} {n goal:Nat} {d:Nat->Int} {dn:Nat->Bool} {q:List (Int×Int)} {cur:Int}
theorem od{t:Nat}(h:DJ (ku g ok c) n goal d dn q cur (λa _ _=>a=t)):DJ (ku g ok c) n goal d dn q cur (Gi g ok c t 0):=
 Sd h λa u k ha hn hE=>by
  obtain⟨_,_,w,hw,h1,_,h2,_⟩:=hE
  subst ha
  exact absurd ⟨rfl,w,Faq _,hw,h1,h2⟩ hn
theorem oe{t:Nat}(h:DJ (ku g ok c) n goal d dn q cur (Gi g ok c t 8)):DJ (ku g ok c) n goal d dn q cur Fk:=
 Sd h λa u k ha hn hE=>by
  obtain⟨_,w,h1,h2,_⟩:=ha
  omega
theorem N9{t i:Nat}(h:DJ (ku g ok c) n goal d dn q cur (Gi g ok c t i))(hp:∀u:Nat,zz g t i=u->0<qa g ok c t i->0<=d u/\d u<=d t+qa g ok c t i):DJ (ku g ok c) n goal d dn q cur (Gi g ok c t (i+1)):=
 Sd h λa u k ha hn hE=>by
  obtain⟨rfl,w,h1,h2,h3,rfl⟩:=ha
  by_cases hw:w=i
  ·subst hw
   exact hp u h3 (M7 _ _ _ hE)
  ·exact absurd ⟨rfl,w,by omega,h2,h3,rfl⟩ hn
theorem zwh{O:Nat->Nat->Int->Prop}(h:DJ (ku g ok c) n goal d dn q cur O)(hgoal:ok goal=true){u:Nat}(hu:0<=d u):ok u=true:=by
 by_cases e:u=goal
 ·rw[e];exact hgoal
 ·obtain⟨t,k,_,_,hE,_⟩:=h.pre u e hu
  obtain⟨_,_,_,_,_,h1,_⟩:=hE
  exact h1
end
def Rk:Option (Int×Int)->Int
 |none=>0
 |some x=>x.1
def K4:Option (Int×Int)->Int
 |none=>0
 |some x=>x.2
def qb(S:Store)(b b2 n:Nat)(d:Nat->Int)(dn:Nat->Bool):Store:=(S.sO b (.cells (il n d))).sO b2 (.cells (bl n dn))
section
variable {S:Store} {b b2 n:Nat}
theorem gk(hb:b≠b2)(d:Nat->Int)(dn:Nat->Bool):(qb S b b2 n d dn).obj b=some (.cells (il n d)):=by
 unfold qb
 rw[ze hb,zc]
theorem zu8(d:Nat->Int)(dn:Nat->Bool):(qb S b b2 n d dn).obj b2=some (.cells (bl n dn)):=zc _ _ _
theorem zu7{i:Nat}{x:AObj}(hf:Fresh S b)(hf2:Fresh (S.sO b x) b2){y:AObj}(h:S.obj i=some y)(d:Nat->Int)(dn:Nat->Bool):(qb S b b2 n d dn).obj i=some y:=by
 have h1:i≠b:=λe=>by rw[e,hf.1]at h;cases h
 have h2:i≠b2:=λe=>by
  have:=hf2.1
  rw[<-e,ze h1,h]at this;cases this
 unfold qb
 rw[ze h2,ze h1]
 exact h
theorem gj(hb:b≠b2)(d d':Nat->Int)(dn:Nat->Bool):(qb S b b2 n d dn).sO b (.cells (il n d'))=qb S b b2 n d' dn:=by
 unfold qb
 rw[Gw hb,yk]
theorem zu6(d:Nat->Int)(dn dn':Nat->Bool):(qb S b b2 n d dn).sO b2 (.cells (bl n dn'))=qb S b b2 n d dn':=yk _ _ _ _
theorem fld_has{d:Nat->Int}{dn:Nat->Bool}{i:Nat}:(qb S b b2 n d dn).has i↔i=b2\/i=b\/S.has i:=by
 unfold qb
 rw[has_setObj_iff,has_setObj_iff]
theorem zu9{F:Store}{d d':Nat->Int}{dn dn':Nat->Bool}(h:zh F (qb S b b2 n d dn)):zh F (qb S b b2 n d' dn'):=λi h1 h2=>h i h1 (fld_has.2 (fld_has.1 h2))
theorem zva(hf:Fresh S b){x:AObj}(hf2:Fresh (S.sO b x) b2){F:Store}(hb:b≠b2){d:Nat->Int}{dn:Nat->Bool}:(F.un (qb S b b2 n d dn)).Has (S.sO b (.cells (il n d))):=by
 have hn:(S.sO b (.cells (il n d))).obj b2=none:=by
  have:=hf2.1
  rw[ze (Ne.symm hb)]at this⊢
  exact this
 exact⟨λi y hi=>zd ((Cn hn).obj i y hi),λi y hi=>Cz hi⟩
end
theorem Mk(n:Nat)(d:Nat->Int)(u:Nat)(v:Int)(hu:u<n):zv (il n d) (0+u*1) [int v]=il n (yi d u v):=by
 rw[show 0+u*1=u by omega,Dk hu]
 rfl
theorem zyf(n:Nat)(d:Nat->Bool)(u:Nat)(v:Bool)(hu:u<n):zv (bl n d) (0+u*1) [bool v]=bl n (yi d u v):=by
 rw[show 0+u*1=u by omega]
 have:=Hx (f:=d) hu (yi d u v) (λs hs=>xg hs)
 rw[kx]at this
 exact this
theorem Ml{n:Nat}{f:Nat->Int}{t:Nat}(h:t<n):((il n f).drop (t*1)).head?=some (int (f t)):=by
 have:=vr (f:=f) h
 rwa [Fbf]at this
theorem zq4(n:Nat)(dn:Nat->Bool):Ao n dn<=n:=by
 have:=Oz (f:=λt=>if dn t=true then 0 else 1) (g:=λ_=>1) n (λt _=>by split<;>omega)
 rw[O0]at this
 unfold Ao
 omega
def Co(g:Gnd)(ok:Nat->Bool)(c:Int)(d:Nat->Int)(t w:Nat):Prop:=0<qa g ok c t w/\0<=d (zz g t w).toNat/\qa g ok c t w+d (zz g t w).toNat=d t
theorem zvl{p:Nat->Bool}{n j:Nat}(hj:j<n)(hp:p j=true)(hn:∀w,w<j->p w=false):(List.range n).find? p=some j:=by
 rw[List.find?_range_eq_some]
 exact⟨hp,Fbb.2 hj,λw hw=>by rw[hn w hw];rfl⟩
theorem zvk{p:Nat->Bool}{n:Nat}(hn:∀w,w<n->p w=false):(List.range n).find? p=none:=by
 rw[Fcu]
 intro w hw
 rw[hn w (Fbb.1 hw)]
 decide
section
variable {g:Gnd} {ok:Nat->Bool} {c:Int} {d:Nat->Int} {t:Nat}
theorem oi(h:d t<=0):qq g ok c d t=-1:=by
 unfold qq
 rw[if_pos h]
theorem og(h:¬d t<=0){j:Nat}(hj:j<8)(hp:Co g ok c d t j)(hn:∀w,w<j->¬Co g ok c d t w):qq g ok c d t=(j:Int):=by
 unfold qq
 rw[if_neg h,zvl hj (by exact decide_eq_true hp) (λw hw=>by exact decide_eq_false (hn w hw))]
theorem oh(h:¬d t<=0)(hn:∀w,w<8->¬Co g ok c d t w):qq g ok c d t=-1:=by
 unfold qq
 rw[if_neg h,zvk (λw hw=>by exact decide_eq_false (hn w hw))]
end
theorem oj(g:Gnd)(ok:Nat->Bool)(c:Int)(d:Nat->Int)(t:Nat):qq g ok c d t=-1\/∃j:Nat,j<8/\qq g ok c d t=(j:Int)/\Co g ok c d t j:=by
 unfold qq
 split
 ·exact .inl rfl
 ·cases h:(List.range 8).find? λway=>decide (0<qa g ok c t way/\0<=d (zz g t way).toNat/\qa g ok c t way+d (zz g t way).toNat=d t)with
  |none=>exact .inl rfl
  |some j=>
   have h1:=Fcw h
   have h2:=Fd0 h
   exact .inr ⟨j,Fbb.1 h1,rfl,by simp only[decide_eq_true_eq]at h2;exact h2⟩
noncomputable def ke(g:Gnd)(ok:Nat->Bool)(c:Int)(d:Nat->Int)(i t:Nat):Int:=if t<i then qq g ok c d t else -1
theorem Vm{g:Gnd}{ok:Nat->Bool}{c:Int}{d:Nat->Int}{i:Nat}:ke g ok c d (i+1)=yi (ke g ok c d i) i (qq g ok c d i):=funext λt=>by
 unfold ke yi
 dsimp only
 by_cases h:t=i
 ·subst h;rw[if_pos (by omega),if_pos rfl]
 ·rw[if_neg h]
  by_cases h2:t<i
  ·rw[if_pos h2,if_pos (by omega)]
  ·rw[if_neg h2,if_neg (by omega)]
theorem Vl{g:Gnd}{ok:Nat->Bool}{c:Int}{d:Nat->Int}{i:Nat}(h:qq g ok c d i=-1):ke g ok c d (i+1)=ke g ok c d i:=by
 rw[Vm,h]
 funext t
 unfold yi ke
 by_cases h:t=i
 ·subst h;rw[if_pos rfl,if_neg (by omega)]
 ·rw[if_neg h]
theorem n8(g:Gnd)(ok:Nat->Bool)(c:Int)(d:Nat->Int):ke g ok c d 0=λ_=>-1:=funext λt=>if_neg (Fbh t)
theorem n9(g:Gnd)(ok:Nat->Bool)(c:Int)(d:Nat->Int)(n:Nat):il n (ke g ok c d n)=il n (qq g ok c d):=I8 λt ht=>if_pos ht
def ja(S:Store)(b b2 n:Nat)(d f:Nat->Int):Store:=(S.sO b (.cells (il n d))).sO b2 (.cells (il n f))
section
variable {S:Store} {b b2 n:Nat}
theorem p5(hb:b≠b2)(d f:Nat->Int):(ja S b b2 n d f).obj b=some (.cells (il n d)):=by
 unfold ja
 rw[ze hb,zc]
theorem p4(d f:Nat->Int):(ja S b b2 n d f).obj b2=some (.cells (il n f)):=zc _ _ _
theorem py{i:Nat}{x:AObj}(hf:Fresh S b)(hf2:Fresh (S.sO b x) b2){y:AObj}(h:S.obj i=some y)(d f:Nat->Int):(ja S b b2 n d f).obj i=some y:=by
 have h1:i≠b:=λe=>by rw[e,hf.1]at h;cases h
 have h2:i≠b2:=λe=>by
  have:=hf2.1
  rw[<-e,ze h1,h]at this;cases this
 unfold ja
 rw[ze h2,ze h1]
 exact h
theorem pw(d f f':Nat->Int):(ja S b b2 n d f).sO b2 (.cells (il n f'))=ja S b b2 n d f':=yk _ _ _ _
theorem pz{x:AObj}(hb:b≠b2)(hf2:Fresh (S.sO b x) b2):Fresh S b2:=by
 have:=hf2
 unfold Fresh at this⊢
 rw[ze (Ne.symm hb)]at this
 exact this
theorem p6(hf:Fresh S b)(hb:b≠b2)(d f:Nat->Int):(ja S b b2 n d f).Has (S.sO b2 (.cells (il n f))):=by
 unfold ja
 rw[Gw (Ne.symm hb)]
 refine Cn ?_
 rw[ze hb]
 exact hf.1
end
theorem zrl(g:Gnd)(t:Nat):Bp g t=(List.range 8).map (zz g t):=by
 apply Fed
 ·rw[L7,Fa5,Fd6]
 ·intro i h1 h2
  rw[L7]at h1
  simp only[Fcj,List.getElem_range]
  unfold zz
  rw[Fa6,Faa (by rw[L7];exact h1)]
  rfl
theorem zrn(g:Gnd)(t:Nat)(x:Int):(Bp g t).contains x=(List.range 8).any λj=>zz g t j==x:=by
 rw[zrl,List.contains_eq_any_beq,List.any_map]
 congr 1
 funext j
 show(x==zz g t j)=_
 rw[Fb5,beq_iff_eq,beq_iff_eq]
 exact eq_comm
theorem zzd{p:Nat->Bool}{n k:Nat}(hk:k<n)(hp:p k=true):(List.range n).any p=true:=Fef.2 ⟨k,Fbb.2 hk,hp⟩
theorem zzc{p:Nat->Bool}{n:Nat}(hp:∀k,k<n->p k=false):(List.range n).any p=false:=by
 rw[Fc7]
 intro k hk
 rw[hp k (Fbb.1 hk)]
 decide
end Go.V
