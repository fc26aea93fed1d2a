/- Ground of laws of thronglaw24: contracts and plain lemmas; no condition beyond the row's own. -/
import Derived.Laws.Append
import Derived.Tactics
import Derived.Test.YtbemejeejgpkaaaGreatKA
set_option linter.unusedSimpArgs false
set_option linter.unusedVariables false
namespace Go.V
section
variable {P:Program} {c:Cfg} {w:World} {Oth M:Nat->Nat->Prop} {st:Store}
def kh(M:Nat->Nat->Prop)(B:Nat):Nat->Nat->Prop:=λb o=>M b o\/b=B
theorem Hg(w:World)(o:Obj):(w.alloc o).heap[w.heap.size]?=some o:=by
  show(w.heap.push o)[_]?=_
  simp
theorem Gc(w:World)(o:Obj)(M Oth:Nat->Nat->Prop):Keeps w (λb o=>M b o\/Oth b o) (w.alloc o) (λb o=>kh M w.heap.size b o\/Oth b o) where
  cell b o' c hc _:=by rw[Da (Cz w o b (Lu hc))];exact hc
  out b o' c hc hT hT':=by
    rcases hT' with(h|h)|h
    · exact hT (.inl h)
    · have:=Lu hc;omega
    · exact hT (.inr h)
  shp b c e fr hw:=⟨c,fr,by rw[Cz w o b (vh hw)];exact hw,rfl⟩
theorem StoreOK.alloc(h:StoreOK st Oth M w)(o:Obj):StoreOK st Oth (kh M w.heap.size) (w.alloc o) where
  obj b x hx:=⟨ObjRel.same (h.obj b x hx).1 (Gc w o M Oth) (Cz w o b (h.obj b x hx).1.lt),λo=>.inl ((h.obj b x hx).2 o)⟩
  tok b top ht:=by
    obtain⟨c,e,fr,h1,h2,h3,h4⟩:=h.tok b top ht
    exact⟨c,e,fr,by rw[Cz w o b (vh h1)];exact h1,h2,h3,λo ho=>.inl (h4 o ho)⟩
  mlt b o' hm:=by
    rcases hm with h'|h'
    · have:=h.mlt b o' h';simp;omega
    · simp;omega
  olt b o' hm:=by have:=h.olt b o' hm;simp;omega
  dis b o' hO hM:=by
    rcases hM with h'|h'
    · exact h.dis b o' hO h'
    · have:=h.olt b o' hO;omega
theorem Hs(w:World)(o:Obj)(M:Nat->Nat->Prop):Chg M w (kh M w.heap.size) (w.alloc o) where
  size:=by simp
  keep b o' hb _:=Da (Cz w o b hb) o'
  blk b hb _:=Cz w o b hb
  shp b c e fr hw:=⟨c,fr,by rw[Cz w o b (vh hw)];exact hw,rfl⟩
  sub b o' hm hb:=by
    rcases hm with h|h
    · exact h
    · omega
  tape:=rfl
  os:=rfl
  output:=rfl
theorem StoreOK.fresh(h:StoreOK st Oth M w){b:Nat}(hb:w.heap.size<=b):Fresh st b:=by
  constructor
  · cases ho:st.obj b with
    |none=>rfl
    |some x=>have:=(h.obj b x ho).1.lt;omega
  · cases ho:st.tok b with
    |none=>rfl
    | some x=>
      obtain⟨c,e,fr,h1,_⟩:=h.tok b x ho
      have:=vh h1
      omega
theorem Nw{l:List AV}{cs:Array Value}(w:World)(e:TypeId)(M Oth:Nat->Nat->Prop)(h:Reads w (λb o=>M b o\/Oth b o) l cs.toList):
    CellsRel (w.alloc (.cells cs e)) (λb o=>kh M w.heap.size b o\/Oth b o) l w.heap.size:=
  ⟨cs,e,(0,0),Hg w _,rfl,by simpa using h.1,λi x y hx hy=>(h.2 i x y hx (by simpa using hy)).keep (Gc w _ M Oth)⟩
theorem Marks.alloc{Oth M:Nat->Nat->Prop}{w:World}{ds:List Deferred}(h:Marks Oth M w ds)(hm:∀b o,M b o->b<w.heap.size)(x:Obj):Marks Oth (kh M w.heap.size) (w.alloc x) ds:=
  h.step λD _ hl h2=>⟨Cz w x D hl,λo hm=>hm.elim (h2 o).1 λe=>by omega⟩
theorem MarksD.alloc{Oth M:Nat->Nat->Prop}{w:World}{n:SN}{ds:List Deferred}(h:MarksD Oth M w n ds)(hm:∀b o,M b o->b<w.heap.size)(x:Obj):MarksD Oth (kh M w.heap.size) (w.alloc x) n ds:=by
  obtain⟨ms,e,h0,h⟩:=h.ex
  exact⟨ms,e,h0,h.alloc hm x⟩
theorem SimB.newBx{n:SN}{β:Nat->Nat}{A:Fr}{a:Act}(h:SimB n Oth β A st M a w){d:Nat}(hd:d<n.sz){l:List AV}{cs:Array Value}(e:TypeId)
    (hr:Reads w (λb o=>M b o\/Oth b o) l cs.toList):
    SimB n Oth (λk=>if k=d then w.heap.size else β k) (A.newBx d l) st (kh M w.heap.size) (a.put (some d) (.pointer (some ⟨w.heap.size,0,none⟩))) (w.alloc (.cells cs e)) where
  tsz:=by simp[Act.put,h.tsz]
  dfr:=h.dfr.alloc h.sto.mlt _
  tm i:=by
    simp only[Fr.newBx,Act.put,Fau]
    by_cases hi:i=d
    · subst hi
      have:i<a.tmps.size:=by rw[h.tsz];exact hd
      simp only[Fbw,cond_true]
      rw[Fds this]
      simp[LRel]
    · have hb:Nat.beq i d=false:=by
        cases hb:Nat.beq i d with
        |false=>rfl
        |true=>exact absurd ((xw _ _).1 hb) hi
      simp only[hb,cond_false]
      rw[Fcs (Ne.symm hi)]
      have h1:=h.tm i
      rw[Fau]at h1
      cases hx:A.t i with
      |any=>trivial
      |und=>rw[hx]at h1;exact h1
      |av x=>rw[hx]at h1;exact VRel.keep (Gc w _ M Oth) h1
      | bx k o=>
        simp only[LV.kill]
        cases hk:Nat.beq k d with
        |true=>trivial
        | false=>
          have hne:k≠d:=λe=>by rw[e,Fbw]at hk;cases hk
          rw[hx]at h1
          simp only[LRel,cond_false]at h1⊢
          rw[if_neg hne]
          exact h1
  bx k l' hk:=by
    simp only[Fr.newBx]at hk
    by_cases hkd:k=d
    · subst hkd
      simp only[Fbw,cond_true,Fal]at hk
      subst hk
      simp only[if_true]
      exact⟨Nw w e M Oth hr,λo=>.inr rfl⟩
    · have hb:Nat.beq k d=false:=by
        cases hb:Nat.beq k d with
        |false=>rfl
        |true=>exact absurd ((xw _ _).1 hb) hkd
      simp only[hb,cond_false]at hk
      simp only[hkd,if_false]
      exact⟨(h.bx k l' hk).1.same (Gc w _ M Oth) (Cz w _ _ (h.bx k l' hk).1.lt),λo=>.inl ((h.bx k l' hk).2 o)⟩
  inj k k' hk hk' he:=by
    simp only[Fr.newBx]at hk hk'
    have hlt:∀k,A.bx k≠none->β k<w.heap.size:=λk hk=>by
      cases hl:A.bx k with
      |none=>exact absurd hl hk
      |some l=>exact(h.bx k l hl).1.lt
    by_cases h1:k=d<;>by_cases h2:k'=d
    · rw[h1,h2]
    · have hb:Nat.beq k' d=false:=by
        cases hb:Nat.beq k' d with
        |false=>rfl
        |true=>exact absurd ((xw _ _).1 hb) h2
      simp only[hb,cond_false]at hk'
      simp only[h1,h2,if_true,if_false]at he
      have:=hlt k' hk'
      omega
    · have hb:Nat.beq k d=false:=by
        cases hb:Nat.beq k d with
        |false=>rfl
        |true=>exact absurd ((xw _ _).1 hb) h1
      simp only[hb,cond_false]at hk
      simp only[h1,h2,if_true,if_false]at he
      have:=hlt k hk
      omega
    · have hb:Nat.beq k d=false:=by
        cases hb:Nat.beq k d with
        |false=>rfl
        |true=>exact absurd ((xw _ _).1 hb) h1
      have hb':Nat.beq k' d=false:=by
        cases hb:Nat.beq k' d with
        |false=>rfl
        |true=>exact absurd ((xw _ _).1 hb) h2
      simp only[hb,hb',cond_false]at hk hk'
      simp only[h1,h2,if_false]at he
      exact h.inj k k' hk hk' he
  sep k b hk hb he:=by
    have hlt:b<w.heap.size:=by
      rcases hb with hb|hb
      · cases ho:st.obj b with
        |none=>exact absurd ho hb
        |some x=>exact(h.sto.obj b x ho).1.lt
      · cases ho:st.tok b with
        |none=>exact absurd ho hb
        | some x=>
          obtain⟨c,e,fr,h1,_⟩:=h.sto.tok b x ho
          exact vh h1
    simp only[Fr.newBx]at hk
    by_cases h1:k=d
    · simp only[h1,if_true]at he;omega
    · have hb':Nat.beq k d=false:=by
        cases hb:Nat.beq k d with
        |false=>rfl
        |true=>exact absurd ((xw _ _).1 hb) h1
      simp only[hb',cond_false]at hk
      simp only[h1,if_false]at he
      exact h.sep k b hk hb he
  sto:=h.sto.alloc _
theorem SimB.grow1{n:SN}{β:Nat->Nat}{A:Fr}{a:Act}(h:SimB n Oth β A st M a w)(o:Obj):SimB n Oth β A st (kh M w.heap.size) a (w.alloc o) where
  tsz:=h.tsz
  dfr:=h.dfr.alloc h.sto.mlt _
  tm i:=(h.tm i).keep (Gc w _ M Oth)
  bx k l hk:=⟨(h.bx k l hk).1.same (Gc w _ M Oth) (Cz w _ _ (h.bx k l hk).1.lt),λo=>.inl ((h.bx k l hk).2 o)⟩
  inj:=h.inj
  sep:=h.sep
  sto:=h.sto.alloc _
theorem qc{i j:Nat}(h:i≠j):Nat.beq i j=false:=by
  cases hb:Nat.beq i j with
  |false=>rfl
  |true=>exact absurd ((xw _ _).1 hb) h
theorem SimB.newObj{n:SN}{β:Nat->Nat}{A:Fr}{a:Act}(h:SimB n Oth β A st M a w)(o:Obj)(x:AObj)
    (hr:ObjRel (w.alloc o) (λb o=>kh M w.heap.size b o\/Oth b o) x w.heap.size):
    SimB n Oth β A (st.sO w.heap.size x) (kh M w.heap.size) a (w.alloc o) where
  tsz:=h.tsz
  dfr:=h.dfr.alloc h.sto.mlt _
  tm:=(h.grow1 o).tm
  bx:=(h.grow1 o).bx
  inj:=h.inj
  sep k b hk hb he:=by
    by_cases hbs:b=w.heap.size
    · cases hl:A.bx k with
      |none=>exact hk hl
      |some l=>have:=(h.bx k l hl).1.lt;omega
    · refine h.sep k b hk ?_ he
      simpa [Store.sO,qc hbs]using hb
  sto:=by
    have h':=h.sto.alloc o
    refine⟨λb y hy=>?_,h'.tok,h'.mlt,h'.olt,h'.dis⟩
    by_cases hbs:b=w.heap.size
    · subst hbs
      simp only[Store.sO,Fbw,cond_true,Fal]at hy
      subst hy
      exact⟨hr,λo=>.inr rfl⟩
    · simp only[Store.sO,qc hbs,cond_false]at hy
      exact h'.obj b y hy
end
section
variable {P:Program} {c:Cfg} {w:World} {Oth M:Nat->Nat->Prop} {st:Store}
theorem CellsRel.mono{T T':Nat->Nat->Prop}(hs:∀b o,T' b o->T b o){l:List AV}{b:Nat}(h:CellsRel w T l b):CellsRel w T' l b:=by
  obtain⟨c,e,fr,h1,h2,h3,h4⟩:=h
  exact⟨c,e,fr,h1,h2,h3,λi x y hx hy=>(h4 i x y hx hy).mono hs⟩
theorem ObjRel.mono{T T':Nat->Nat->Prop}(hs:∀b o,T' b o->T b o){x:AObj}{b:Nat}(h:ObjRel w T x b):ObjRel w T' x b:=by
  cases x with
  |cells l=>exact CellsRel.mono hs h
  | map es bs clock=>
    obtain⟨ms,h1,h2,h3,h4⟩:=h
    exact⟨ms,h1,h2,λi x y hx hy=>⟨(h3 i x y hx hy).1.mono hs,(h3 i x y hx hy).2.mono hs⟩,h4⟩
  |iter m since seen last=>exact h
  |ghost o gh=>exact⟨h.1,λp hp=>(h.2 p hp).mono hs⟩
theorem LRel.mono{T T':Nat->Nat->Prop}(hs:∀b o,T' b o->T b o){β:Nat->Nat}{x:LV}{v:Value}(h:LRel w T β x v):LRel w T' β x v:=by
  cases x with
  |any=>trivial
  |und=>exact h
  |av x=>exact VRel.mono hs h
  |bx k off=>exact h
theorem SimB.shrink{n:SN}{β:Nat->Nat}{A:Fr}{a:Act}(h:SimB n Oth β A st M a w){M':Nat->Nat->Prop}(hs:∀b o,M' b o->M b o)
    (hb:∀k l,A.bx k=some l->∀o,M' (β k) o) (ho:∀b x,st.obj b=some x->∀o,M' b o) (ht:∀b top,st.tok b=some top->∀o,top<=o->M' b o):SimB n Oth β A st M' a w where
  tsz:=h.tsz
  dfr:=h.dfr.sub hs
  tm i:=(h.tm i).mono λb o hm=>hm.imp (hs b o) id
  bx k l hk:=⟨(h.bx k l hk).1.mono λb o hm=>hm.imp (hs b o) id,hb k l hk⟩
  inj:=h.inj
  sep:=h.sep
  sto:=
    { obj:=λb x hx=>⟨(h.sto.obj b x hx).1.mono λb o hm=>hm.imp (hs b o) id,ho b x hx⟩
      tok:=λb top hx=>by
        obtain⟨c,e,fr,h1,h2,h3,h4⟩:=h.sto.tok b top hx
        exact⟨c,e,fr,h1,h2,h3,ht b top hx⟩
      mlt:=λb o hm=>h.sto.mlt b o (hs b o hm)
      olt:=h.sto.olt
      dis:=λb o hO hM=>h.sto.dis b o hO (hs b o hM)}
def Sb(M:Nat->Nat->Prop)(B top:Nat):Nat->Nat->Prop:=λb o=>M b o\/(b=B/\top<=o)
theorem zat(w:World)(o:Obj)(M:Nat->Nat->Prop)(top:Nat):Chg M w (Sb M w.heap.size top) (w.alloc o):=
  { Hs w o M with
    sub:=λb o' hm hb=>by
      rcases hm with h|h
      · exact h
      · omega}
theorem SimB.newTok{n:SN}{β:Nat->Nat}{A:Fr}{a:Act}(h:SimB n Oth β A st M a w)(cs:Array Value)(e:TypeId)(top:Nat)(htop:top<=cs.size):
    SimB n Oth β A (st.sT w.heap.size (some top)) (Sb M w.heap.size top) a (w.alloc (.cells cs e)):=by
  have hlt:∀b,(st.obj b≠none\/st.tok b≠none)->b<w.heap.size:=λb hb=>by
    rcases hb with hb|hb
    · cases ho:st.obj b with
      |none=>exact absurd ho hb
      |some x=>exact(h.sto.obj b x ho).1.lt
    · cases ho:st.tok b with
      |none=>exact absurd ho hb
      | some x=>
        obtain⟨c,e,fr,h1,_⟩:=h.sto.tok b x ho
        exact vh h1
  have h1:=(h.grow1 (.cells cs e)).shrink (M':=Sb M w.heap.size top) (λb o hm=>hm.imp id λh=>h.1)
    (λk l hk o=>.inl ((h.bx k l hk).2 o)) (λb x hx o=>.inl ((h.sto.obj b x hx).2 o))
    (λb t hx o ho=>by
      obtain⟨c,e,fr,h1,h2,h3,h4⟩:=h.sto.tok b t hx
      exact .inl (h4 o ho))
  refine{h1 with sep:=λk b hk hb he=>?_,sto:={h1.sto with tok:=λb t ht=>?_}}
  · by_cases hbs:b=w.heap.size
    · cases hl:A.bx k with
      |none=>exact hk hl
      |some l=>have:=(h.bx k l hl).1.lt;omega
    · refine h.sep k b hk ?_ he
      simpa [Store.sT,qc hbs]using hb
  · by_cases hbs:b=w.heap.size
    · subst hbs
      simp only[Store.sT,Fbw,cond_true,Fal]at ht
      subst ht
      exact⟨cs,e,(0,0),Hg w _,.inl rfl,htop,λo ho=>.inr ⟨rfl,ho⟩⟩
    · simp only[Store.sT,qc hbs,cond_false]at ht
      exact h1.sto.tok b t ht
structure Wrote(w:World)(b o:Nat)(vs:List Value)(w':World):Prop where
  size:w'.heap.size=w.heap.size
  other:∀b',b'≠b->w'.heap[b']?=w.heap[b']?
  blk:∀c e fr,w.heap[b]?=some (.cells c e fr)->∃c',w'.heap[b]?=some (.cells c' e fr)/\c'.toList=c.toList.take o++vs++c.toList.drop (o+vs.length)/\c'.size=c.size
  tape:w'.tape=w.tape
  os:w'.os=w.os
  output:w'.output=w.output
theorem P7(w:World)(b o:Nat)(v:Value)(b':Nat):(w.setCell ⟨b,o,none⟩ v).heap[b']?=if b'=b then(w.heap[b']?).map (λ|.cells c e fr=>.cells (c.setIfInBounds o v) e fr|x=>x)else w.heap[b']?:=by
  simp only[World.setCell,Fcw]
  by_cases h:b=b'
  · subst h
    simp
    rfl
  · simp[h,Ne.symm h]
theorem Kx(w:World)(b o:Nat):∀(vs:List Value) (i:Nat) (w:World) (c:Array Value) (e:TypeId) (fr:Nat×Nat),w.heap[b]?=some (.cells c e fr)->De fr c.size->o+i+vs.length<=c.size->
    (∀v∈vs,xa v=true)->∃w',(storeCells ⟨b,o,none⟩ vs i).run P w=.ok () w'/\Wrote w b (o+i) vs w':=by
  intro vs
  induction vs with
  | nil=>
    intro i w c e fr hw _ _ _
    exact⟨w,by simp[storeCells],rfl,λ_ _=>rfl,λc e fr h=>⟨c,h,by simp,rfl⟩,rfl,rfl,rfl⟩
  | cons v vs ih=>
    intro i w c e fr hw hf hlen hone
    simp only[Fba]at hlen
    have hlt:o+i<c.size:=by omega
    have hcell:w.cell? ⟨b,o+i,none⟩=some c[o+i]:=by simp[World.cell?,hw,hlt]
    have hfz:w.frozen? ⟨b,o+i,none⟩=false:=by
      simp only[World.frozen?,hw]
      unfold De at hf
      simp
      intro h
      omega
    have hst:(store (Addr.add ⟨b,o,none⟩ i) v).run P w=.ok () (w.setCell ⟨b,o+i,none⟩ v):=by
      rw[wd]
      have h1:=hone v (by simp)
      cases v<;>simp[xa]at h1<;>simp[store,Sem.run,hcell,hfz]
    have hw1:(w.setCell ⟨b,o+i,none⟩ v).heap[b]?=some (.cells (c.setIfInBounds (o+i) v) e fr):=by
      rw[P7,if_pos rfl,hw]
      rfl
    obtain⟨w',hr,hwr⟩:=ih (i+1) _ _ e fr hw1 (by simpa using hf) (by simp;omega) (λv hv=>hone v (by simp[hv]))
    refine⟨w',by simp only[storeCells,Sem.run_bind,hst,Result.andThen_ok,hr],by rw[hwr.size];simp,λb' hb=>by rw[hwr.other b' hb,P7,if_neg hb],λc₁ e₁ fr₁ hc₁=>?_,by rw[hwr.tape];rfl,by rw[hwr.os];rfl,by rw[hwr.output];rfl⟩
    rw[hw]at hc₁
    cases hc₁
    obtain⟨c',hc',hl,hs⟩:=hwr.blk _ _ _ hw1
    refine⟨c',hc',?_,by simpa using hs⟩
    rw[hl,Fex]
    have hlt':o+i<c.toList.length:=by simpa using hlt
    apply Fck
    intro j
    simp only[List.getElem?_append,Fdm,Fcg,Fdu,Fad,Fao,Faf,Fba,Fb4]
    have hsz:o+i+(vs.length+1)<=c.size:=hlen
    rcases Fe4 j (o+i)with hi|hi|hi
    · have h1:j<o+(i+1):=by omega
      have h2:j<min (o+(i+1)) c.size:=by omega
      have h3:j<min (o+i) c.size:=by omega
      have h4:j<min (o+i) c.size+(vs.length+1):=by omega
      have h5:j<min (o+(i+1)) c.size+vs.length:=by omega
      have h6:¬o+i=j:=by omega
      simp[h1,h2,h3,h4,h5,h6,hi]
    · subst hi
      have h1:o+i<min (o+(i+1)) c.size:=by omega
      have h2:¬o+i<min (o+i) c.size:=by omega
      have h3:o+i-min (o+i) c.size=0:=by omega
      have h4:o+i<min (o+i) c.size+(vs.length+1):=by omega
      have h5:o+i<min (o+(i+1)) c.size+vs.length:=by omega
      have h6:o+i<o+(i+1):=by omega
      simp[h1,h2,h3,h4,h5,h6,hlt]
    · have h2:¬j<min (o+(i+1)) c.size:=by omega
      have h3:¬j<min (o+i) c.size:=by omega
      have e1:j-min (o+i) c.size=(j-min (o+(i+1)) c.size)+1:=by omega
      have e2:(j<min (o+i) c.size+(vs.length+1))↔(j<min (o+(i+1)) c.size+vs.length):=by omega
      have e3:o+(i+1)+vs.length+(j-(min (o+(i+1)) c.size+vs.length))=o+i+(vs.length+1)+(j-(min (o+i) c.size+(vs.length+1))):=by omega
      simp only[h2,h3,if_false,e1,Faz,e2,e3]
      have h8:¬o+i=o+i+(vs.length+1)+(j-(min (o+i) c.size+(vs.length+1))):=by omega
      simp[h8]
theorem Wrote.keeps{b o:Nat}{vs:List Value}{w':World}(h:Wrote w b o vs w'){T:Nat->Nat->Prop}(hb:∀o,T b o):Keeps w T w' T where
  cell b' o' c hc hT:=by
    have hne:b'≠b:=λe=>hT (e▸hb o')
    rw[Da (h.other b' hne)]
    exact hc
  out b' o' c hc hT:=hT
  shp b' c e fr hw:=by
    by_cases hbb:b'=b
    · subst hbb
      obtain⟨c',h1,_,h2⟩:=h.blk c e fr hw
      exact⟨c',fr,h1,h2⟩
    · exact⟨c,fr,by rw[h.other b' hbb];exact hw,rfl⟩
theorem Wrote.chg{b o:Nat}{vs:List Value}{w':World}(h:Wrote w b o vs w')(hb:∀o,M b o):Chg M w M w' where
  size:=by rw[h.size];exact Faj _
  keep b' o' _ hm:=Da (h.other b' λe=>hm (e▸hb o')) o'
  blk b' _ hm:=h.other b' λe=>hm 0 (e▸hb 0)
  shp:=(h.keeps (T:=M) hb).shp
  sub _ _ hm _:=hm
  tape:=h.tape
  os:=h.os
  output:=h.output
theorem CellsRel.wrote{b o:Nat}{vs:List Value}{w':World}{T:Nat->Nat->Prop}(h:Wrote w b o vs w')(hT:∀o,T b o){l xs:List AV}(hl:CellsRel w T l b)(hx:Reads w T xs vs):
    CellsRel w' T (zu l o xs) b:=by
  obtain⟨c,e,fr,h1,h2,h3,h4⟩:=hl
  obtain⟨c',h5,h6,h7⟩:=h.blk c e fr h1
  have hr:Reads w T l c.toList:=⟨by simpa using h3,λi x y hx hy=>h4 i x y hx (by simpa using hy)⟩
  have hr':Reads w' T (zu l o xs) c'.toList:=by
    rw[h6]
    unfold zu
    refine(((hr.take o).append hx).append ?_).keep (h.keeps hT)
    rw[hx.1]
    exact hr.drop _
  exact⟨c',e,fr,h5,h2,by simpa using hr'.1,λi x y hx hy=>hr'.2 i x y hx (by simpa using hy)⟩
theorem StoreOK.wrote{b o:Nat}{vs:List Value}{w':World}(h:StoreOK st Oth M w)(hw:Wrote w b o vs w')(hb:∀o,M b o)(hob:st.obj b=none):StoreOK st Oth M w' where
  obj b' x hx:=by
    have hne:b'≠b:=λe=>by rw[e,hob]at hx;cases hx
    exact⟨ObjRel.same (h.obj b' x hx).1 (hw.keeps λo=>.inl (hb o)) (hw.other b' hne),(h.obj b' x hx).2⟩
  tok b' top ht:=by
    obtain⟨c,e,fr,h1,h2,h3,h4⟩:=h.tok b' top ht
    by_cases he:b'=b
    · subst he
      obtain⟨c',h5,_,h6⟩:=hw.blk c e fr h1
      exact⟨c',e,fr,h5,by rw[h6];exact h2,by rw[h6];exact h3,h4⟩
    · exact⟨c,e,fr,by rw[hw.other b' he];exact h1,h2,h3,h4⟩
  mlt b' o' hm:=by rw[hw.size];exact h.mlt b' o' hm
  olt b' o' hm:=by rw[hw.size];exact h.olt b' o' hm
  dis:=h.dis
theorem SimB.setBx{n:SN}{β:Nat->Nat}{A:Fr}{a:Act}(h:SimB n Oth β A st M a w){k o:Nat}{l xs:List AV}{vs:List Value}{w':World}(hk:A.bx k=some l)
    (hx:Reads w (λb o=>M b o\/Oth b o) xs vs) (hw:Wrote w (β k) o vs w'):SimB n Oth β (A.setBx k (zu l o xs)) st M a w':=by
  have hM:=(h.bx k l hk).2
  have hT:∀o,M (β k) o\/Oth (β k) o:=λo=>.inl (hM o)
  have hsome:∀k',(A.setBx k (zu l o xs)).bx k'≠none->A.bx k'≠none:=by
    intro k' h'
    by_cases he:k'=k
    · subst he;rw[hk];simp
    · simpa [Fr.setBx,qc he]using h'
  have hob:st.obj (β k)=none:=by
    cases ho:st.obj (β k)with
    |none=>rfl
    |some x=>exact absurd rfl (h.sep k (β k) (by rw[hk];simp) (.inl (by rw[ho];simp)))
  exact
    { tsz:=h.tsz
      dfr:=h.dfr.step λD _ _ h2=>⟨hw.other D λe=>(h2 0).1 (e▸hM 0),λo=>(h2 o).1⟩
      tm:=λi=>(h.tm i).keep (hw.keeps hT)
      bx:=λk' l' hk'=>by
        by_cases he:k'=k
        · subst he
          simp only[Fr.setBx,Fbw,cond_true,Fal]at hk'
          subst hk'
          exact⟨CellsRel.wrote hw hT (h.bx k' l hk).1 hx,hM⟩
        · simp only[Fr.setBx,qc he,cond_false]at hk'
          have hne:β k'≠β k:=λe=>he (h.inj k' k (by rw[hk'];simp) (by rw[hk];simp) e)
          exact⟨(h.bx k' l' hk').1.same (hw.keeps hT) (hw.other _ hne),(h.bx k' l' hk').2⟩
      inj:=λk1 k2 h1 h2=>h.inj k1 k2 (hsome k1 h1) (hsome k2 h2)
      sep:=λk1 b h1=>h.sep k1 b (hsome k1 h1)
      sto:=h.sto.wrote hw hM hob}
theorem SimB.sO{n:SN}{β:Nat->Nat}{A:Fr}{a:Act}(h:SimB n Oth β A st M a w){b o:Nat}{l xs:List AV}{vs:List Value}{w':World}(hk:st.obj b=some (.cells l))
    (hx:Reads w (λb o=>M b o\/Oth b o) xs vs) (hw:Wrote w b o vs w'):SimB n Oth β A (st.sO b (.cells (zu l o xs))) M a w':=by
  have hM:=(h.sto.obj b _ hk).2
  have hT:∀o,M b o\/Oth b o:=λo=>.inl (hM o)
  exact
    { tsz:=h.tsz
      dfr:=h.dfr.step λD _ _ h2=>⟨hw.other D λe=>(h2 0).1 (e▸hM 0),λo=>(h2 o).1⟩
      tm:=λi=>(h.tm i).keep (hw.keeps hT)
      bx:=λk' l' hk'=>by
        have hne:β k'≠b:=h.sep k' b (by rw[hk'];simp) (.inl (by rw[hk];simp))
        exact⟨(h.bx k' l' hk').1.same (hw.keeps hT) (hw.other _ hne),(h.bx k' l' hk').2⟩
      inj:=h.inj
      sep:=λk1 b1 h1 h2=>h.sep k1 b1 h1 (by
        by_cases he:b1=b
        · subst he;exact .inl (by rw[hk];simp)
        · simpa [Store.sO,qc he]using h2)
      sto:=
        { obj:=λb' x hx'=>by
            by_cases he:b'=b
            · subst he
              simp only[Store.sO,Fbw,cond_true,Fal]at hx'
              subst hx'
              exact⟨CellsRel.wrote hw hT (h.sto.obj b' _ hk).1 hx,hM⟩
            · simp only[Store.sO,qc he,cond_false]at hx'
              exact⟨ObjRel.same (h.sto.obj b' x hx').1 (hw.keeps hT) (hw.other b' he),(h.sto.obj b' x hx').2⟩
          tok:=λb' top ht=>by
            obtain⟨c,e,fr,h1,h2,h3,h4⟩:=h.sto.tok b' top ht
            by_cases he:b'=b
            · subst he
              obtain⟨c',h5,_,h6⟩:=hw.blk c e fr h1
              exact⟨c',e,fr,h5,by rw[h6];exact h2,by rw[h6];exact h3,h4⟩
            · exact⟨c,e,fr,by rw[hw.other b' he];exact h1,h2,h3,h4⟩
          mlt:=λb' o' hm=>by rw[hw.size];exact h.sto.mlt b' o' hm
          olt:=λb' o' hm=>by rw[hw.size];exact h.sto.olt b' o' hm
          dis:=h.sto.dis}}
end
section
variable {P:Program} {c:Cfg} {K:Fr->Store->Prop} {A:Fr} {st:Store}
theorem Ac{d n:Nat}{p:Prop}(h:bif Nat.blt d n then p else False):d<n/\p:=by
  cases hb:Nat.blt d n with
  |false=>rw[hb]at h;exact h.elim
  |true=>rw[hb]at h;exact⟨Fbh hb,h⟩
theorem yfr{o:Oper}{t:TypeId}(ho:o.op=.alloc t)(hI:y9 P c.I)
    (h:optK (c.I t) λi=>optK o.dst λd=>bif Nat.blt d c.n then
      (bif c.G.contains d then∀b,Fresh st b->K (A.put d (.av (.s (.pointer (some ⟨b,0,none⟩))))) (st.sO b (.cells (Af i)))
        else K (A.newBx d (Af i)) st)else False):AOp P c.N o K A st:=by
  obtain⟨i,hi,h⟩:=zq h
  obtain⟨d,hd,h⟩:=zq h
  obtain⟨hlt,h⟩:=Ac h
  rintro Oth M a w ⟨β,sim⟩
  obtain⟨z,hz1,hz2⟩:=Mk (hI _ _ hi) w
  have hr:(execOp a.eval o).run P w=.ok (.value (.pointer (some ⟨w.heap.size,0,none⟩))) (w.alloc (.cells z.cells t)):=by
    simp only[execOp,ho,Instr.alloc,Sem.run_bind,hz1,Result.andThen_ok]
    simp[newVar,newRow]
  have hrd:∀T,Reads w T (Af i) z.cells.toList:=λT=>by unfold Af;rw[hz2];exact Reads.map_s _
  unfold Oper.wp
  rw[hr,Oper.upon_value,hd]
  cases hg:c.G.contains d with
  | true=>
    rw[hg]at h
    refine⟨_,_,kh M w.heap.size,h w.heap.size (sim.sto.fresh (Faj _)),⟨β,?_⟩,Hs _ _ _⟩
    exact(sim.newObj _ (.cells (Af i)) (Nw w t M Oth (hrd _))).put hlt (VRel.s _)
  | false=>
    rw[hg]at h
    exact⟨_,_,kh M w.heap.size,h,⟨_,sim.newBx hlt t (hrd _)⟩,Hs _ _ _⟩
theorem yfo{o:Oper}{t:TypeId}{x:Operand}(ho:o.op=.box t x)(hI:y9 P c.I)
    (h:optK o.dst λd=>bif Nat.blt d c.n then(match A.ev x with
      | .av x=>optK (cellsOf x) λl=>
        bif c.G.contains d then∀b,Fresh st b->K (A.put d (.av (.s (.pointer (some ⟨b,0,none⟩))))) (st.sO b (.cells l))
        else K (A.newBx d l) st
      |_=>False)else False):AOp P c.N o K A st:=by
  obtain⟨d,hd,h⟩:=zq h
  obtain⟨hlt,h⟩:=Ac h
  split at h
  · rename_i y hy
    obtain⟨l,hl,h⟩:=zq h
    rintro Oth M a w ⟨β,sim⟩
    have hv:=qk sim.env hy
    obtain⟨hrd,_⟩:=dh hv hl
    have hr:(execOp a.eval o).run P w=.ok (.value (.pointer (some ⟨w.heap.size,0,none⟩))) (w.alloc (.cells (a.eval x).cells t)):=by
      simp[execOp,ho,Instr.box,newVar,newRow]
    unfold Oper.wp
    rw[hr,Oper.upon_value,hd]
    cases hg:c.G.contains d with
    | true=>
      rw[hg]at h
      refine⟨_,_,kh M w.heap.size,h w.heap.size (sim.sto.fresh (Faj _)),⟨β,?_⟩,Hs _ _ _⟩
      exact(sim.newObj _ (.cells l) (Nw w t M Oth hrd)).put hlt (VRel.s _)
    | false=>
      rw[hg]at h
      exact⟨_,_,kh M w.heap.size,h,⟨_,sim.newBx hlt t hrd⟩,Hs _ _ _⟩
  · exact h.elim
theorem yfj{o:Oper}{t:TypeId}{p x:Operand}(ho:o.op=.store t p x)(hd:o.dst=none)(hI:y9 P c.I)
    (h:optK (c.I t) λi=>match A.ev x with
      |.av x=>Fx i A st (A.ev p) x K
      |_=>False):AOp P c.N o K A st:=by
  obtain⟨i,hi,h⟩:=zq h
  split at h
  · rename_i y hy
    obtain⟨xs,hxs,h⟩:=zq h
    cases hb:(Nat.beq xs.length i.size&&xs.all AV.one)with
    |false=>rw[hb]at h;exact h.elim
    |true=>
    rw[hb]at h
    simp only[cond_true]at h
    simp only[Fav]at hb
    have hsz:xs.length=i.size:=(xw _ _).1 hb.1
    rintro Oth M a w ⟨β,sim⟩
    have hv:=qk sim.env hy
    obtain⟨hrd,hone⟩:=dh hv hxs
    have hone':∀v∈(a.eval x).cells.toList,xa v=true:=by
      intro v hv
      obtain⟨j,hj⟩:=Fbb.1 hv
      have hjl:j<xs.length:=by rw[hrd.1];exact(Fai.1 hj).1
      exact Wi (hrd.2 j _ v (Fab hjl) hj) (Fb6.1 hb.2 _ (Faa hjl))
    have hvs:(a.eval x).cells.size=i.size:=by rw[<-hsz,hrd.1];simp
    unfold Oper.wp
    split at h
    · rename_i k off hp
      obtain⟨l,hl,h⟩:=zq h
      cases hb2:Nat.ble (off+xs.length) l.length with
      |false=>rw[hb2]at h;exact h.elim
      |true=>
      rw[hb2]at h
      simp only[cond_true,Fm]at h
      have hle:off+xs.length<=l.length:=Fbh hb2
      have hp':a.eval p=.pointer (some ⟨β k,off,none⟩):=by have:=sim.ev p;rw[hp]at this;exact this
      obtain⟨⟨cs,e,fr,h1,h2,h3,h4⟩,hM⟩:=sim.bx k l hl
      obtain⟨w',hr,hw⟩:=Kx (P:=P) w (β k) off (a.eval x).cells.toList 0 w cs e fr h1 (.inl h2) (by rw[<-hrd.1];omega) hone'
      have hrun:(execOp a.eval o).run P w=.ok .skip w':=by
        simp[execOp,ho,hp',Instr.storeAt,Instr.sureAddr,storeVar,ki (hI _ _ hi),hvs,hr]
      rw[hrun,Oper.upon_skip,hd]
      exact⟨_,_,M,h,⟨β,sim.setBx hl hrd hw⟩,hw.chg hM⟩
    · rename_i b off hp
      obtain⟨ob,hob,h⟩:=zq h
      cases ob with
      |map es bs clock=>exact h.elim
      |iter m since seen last=>exact h.elim
      |ghost o gh=>exact h.elim
      |cells l=>
      obtain⟨hle,h⟩:=h
      rw[Fm]at h
      have hp':a.eval p=.pointer (some ⟨b,off,none⟩):=VRel.eq_s (qk sim.env hp)
      obtain⟨⟨cs,e,fr,h1,h2,h3,h4⟩,hM⟩:=sim.sto.obj b _ hob
      obtain⟨w',hr,hw⟩:=Kx (P:=P) w b off (a.eval x).cells.toList 0 w cs e fr h1 (.inl h2) (by rw[<-hrd.1];omega) hone'
      have hrun:(execOp a.eval o).run P w=.ok .skip w':=by
        simp[execOp,ho,hp',Instr.storeAt,Instr.sureAddr,storeVar,ki (hI _ _ hi),hvs,hr]
      rw[hrun,Oper.upon_skip,hd]
      exact⟨_,_,M,h,⟨β,sim.sO hob hrd hw⟩,hw.chg hM⟩
    · exact h.elim
  · exact h.elim
end
section
variable {P:Program} {c:Cfg} {K:Fr->Store->Prop} {A:Fr} {st:Store}
theorem VRel.clos_inv{w:World}{T:Nat->Nat->Prop}{f:FuncId}{cs:List AV}{v:Value}(h:VRel w T (.clos f cs) v):∃c,v=.func (.func f) #[] c/\Reads w T cs c.toList:=by
  cases h with
  |clos _ _ c hl h=>exact⟨c,rfl,by simpa using hl,λi x y hx hy=>h i x y hx (by simpa using hy)⟩
def inM(M:Nat->Nat->Prop)(A:Fr)(β:Nat->Nat):Nat->Nat->Prop:=λb o=>M b o/\∀k,A.bx k≠none->β k≠b
def Pm(Oth M:Nat->Nat->Prop)(A:Fr)(β:Nat->Nat):Nat->Nat->Prop:=λb o=>Oth b o\/(M b o/\∃k,A.bx k≠none/\β k=b)
theorem Hf{Oth M:Nat->Nat->Prop}{β:Nat->Nat}:∀b o,(inM M A β b o\/Pm Oth M A β b o)->(M b o\/Oth b o):=by
  rintro b o (h|h|h)
  · exact .inl h.1
  · exact .inr h
  · exact .inl h.1
theorem SimB.inner{n:SN}{Oth M:Nat->Nat->Prop}{β:Nat->Nat}{a:Act}{w:World}(sim:SimB n Oth β A st M a w):StoreOK st (Pm Oth M A β) (inM M A β) w:=
  { obj:=λb x hx=>⟨(sim.sto.obj b x hx).1.mono Hf,λo=>⟨(sim.sto.obj b x hx).2 o,λk hk=>sim.sep k b hk (.inl (by rw[hx];simp))⟩⟩
    tok:=λb top hx=>by
      obtain⟨c,e,fr,h1,h2,h3,h4⟩:=sim.sto.tok b top hx
      exact⟨c,e,fr,h1,h2,h3,λo ho=>⟨h4 o ho,λk hk=>sim.sep k b hk (.inr (by rw[hx];simp))⟩⟩
    mlt:=λb o hm=>sim.sto.mlt b o hm.1
    olt:=λb o hm=>by
      rcases hm with h|h
      · exact sim.sto.olt b o h
      · exact sim.sto.mlt b o h.1
    dis:=λb o hO hM=>by
      rcases hO with h|⟨h,k,hk,he⟩
      · exact sim.sto.dis b o h hM.1
      · exact hM.2 k hk he}
theorem SimB.post{n:SN}{Oth M:Nat->Nat->Prop}{β:Nat->Nat}{a:Act}{w:World}(sim:SimB n Oth β A st M a w){R:Ja}:
    ∀v w',xe st R (Pm Oth M A β) (inM M A β) w v w'->∃r st' M',R r st'/\VRel w' (λb o=>M' b o\/Oth b o) r v/\SimB n Oth β A st' M' a w'/\Chg M w M' w':=by
  rintro v w' ⟨r,st',Mc',hR,hr,hsto,hchg⟩
  let M':Nat->Nat->Prop:=λb o=>Mc' b o\/(M b o/\∃k,A.bx k≠none/\β k=b)
  have hT2:∀b o,(M' b o\/Oth b o)->(Mc' b o\/Pm Oth M A β b o):=by
    rintro b o ((h|h)|h)
    · exact .inl h
    · exact .inr (.inr h)
    · exact .inr (.inl h)
  have hblk:∀k,A.bx k≠none->w'.heap[β k]?=w.heap[β k]?:=λk hk=>by
    cases hl:A.bx k with
    |none=>exact absurd hl hk
    |some l=>exact hchg.blk _ (sim.bx k l hl).1.lt λo hm=>hm.2 k hk rfl
  have hno:∀k b o,A.bx k≠none->Mc' b o->β k≠b:=λk b o hk hm he=>by
    subst he
    cases hl:A.bx k with
    |none=>exact absurd hl hk
    |some l=>exact(hchg.sub _ o hm (sim.bx k l hl).1.lt).2 k hk rfl
  refine⟨r,st',M',hR,hr.mono hT2,?_,?_⟩
  · exact
      { tsz:=sim.tsz
        dfr:=sim.dfr.step λD _ hl h2=>⟨hchg.blk D hl λo hm=>(h2 o).1 hm.1,λo hm=>by
          rcases hm with hm|hm
          · exact(h2 o).1 (hchg.sub D o hm hl).1
          · exact(h2 o).1 hm.1⟩
        tm:=λi=>((LRel.mono Hf (sim.tm i)).keep hchg.keeps).mono hT2
        bx:=λk l hl=>by
          have hk:A.bx k≠none:=by rw[hl];simp
          exact⟨(((sim.bx k l hl).1.mono Hf).same hchg.keeps (hblk k hk)).mono hT2,λo=>.inr ⟨(sim.bx k l hl).2 o,k,hk,rfl⟩⟩
        inj:=sim.inj
        sep:=λk b hk hb=>by
          rcases hb with hb|hb
          · cases ho:st'.obj b with
            |none=>exact absurd ho hb
            |some x=>exact hno k b 0 hk ((hsto.obj b x ho).2 0)
          · cases ho:st'.tok b with
            |none=>exact absurd ho hb
            | some top=>
              obtain⟨c,e,fr,h1,h2,h3,h4⟩:=hsto.tok b top ho
              exact hno k b top hk (h4 top (Faj _))
        sto:=
          { obj:=λb x hx=>⟨(hsto.obj b x hx).1.mono hT2,λo=>.inl ((hsto.obj b x hx).2 o)⟩
            tok:=λb top hx=>by
              obtain⟨c,e,fr,h1,h2,h3,h4⟩:=hsto.tok b top hx
              exact⟨c,e,fr,h1,h2,h3,λo ho=>.inl (h4 o ho)⟩
            mlt:=λb o hm=>by
              rcases hm with h|h
              · exact hsto.mlt b o h
              · exact Nat.lt_of_lt_of_le (sim.sto.mlt b o h.1) hchg.size
            olt:=λb o hm=>Nat.lt_of_lt_of_le (sim.sto.olt b o hm) hchg.size
            dis:=λb o hO hM=>by
              rcases hM with h|h
              · exact hsto.dis b o (.inl hO) h
              · exact sim.sto.dis b o hO h.1}}
  · exact
      { size:=hchg.size
        keep:=λb o hb hm=>hchg.keep b o hb λh=>hm h.1
        blk:=λb hb hm=>hchg.blk b hb λo h=>hm o h.1
        shp:=hchg.shp
        sub:=λb o hm hb=>by
          rcases hm with h|h
          · exact(hchg.sub b o h hb).1
          · exact h.1
        tape:=hchg.tape
        os:=hchg.os
        output:=hchg.output}
theorem SimB.call{n:SN}{Oth M:Nat->Nat->Prop}{β:Nat->Nat}{a:Act}{w:World}(sim:SimB n Oth β A st M a w){g:FuncId}{args:List AV}{vs:Array Value}{R:Ja}
    (hc:ACalls P g args st R) (hv:Reads w (λb o=>M b o\/Oth b o) args vs.toList):
    Ob P (λv w'=>∃r st' M',R r st'/\VRel w' (λb o=>M' b o\/Oth b o) r v/\SimB n Oth β A st' M' a w'/\Chg M w M' w') ((callFunc g vs).run P w):=by
  have key:=sim.post (R:=R)
  have hout:=hc.out _ _ w vs sim.inner ⟨hv.1,λi x y hx hy=>(hv.2 i x y hx hy).mono Hf⟩
  generalize(callFunc g vs).run P w=res at*
  cases res with
  |halt h w'=>exact hout.elim
  | ok nx w'=>
    cases nx with
    |enter f as=>exact Calls.mono hout λe w'' ⟨v,he,hp⟩=>⟨v,he,key v w'' hp⟩
    |value v=>exact key v w' hout
    |_=>exact hout.elim
theorem R9{o:Oper}(hI:y9 P c.I)(h:vcX P c o K A st):AOp P c.N o K A st:=by
  obtain⟨vs,hvs,h⟩:=zq h
  rintro Oth M a w ⟨β,sim⟩
  obtain⟨hm1,hm2⟩:=M7 hvs
  have hr:Reads w (λb o=>M b o\/Oth b o) vs (o.op.operands.map a.eval).toList:=by
    refine⟨by simp[hm1],λi x y hx hy=>?_⟩
    obtain⟨z,hz,hzz⟩:=hm2 i x hx
    have hz':o.op.operands[i]?=some z:=by simpa using hz
    rw[Fc3,Faq,hz]at hy
    simp at hy
    subst hy
    exact qk sim.env (L9 hzz)
  have hout:=h.out _ _ w a.eval hI sim.inner ⟨hr.1,λi x y hx hy=>(hr.2 i x y hx hy).mono Hf⟩
  have key:=sim.post (R:=λr st'=>qu A c.n o.dst (.av r) λA'=>K A' st')
  have fin:∀v w',(∃r st' M',(qu A c.n o.dst (.av r) λA'=>K A' st')/\VRel w' (λb o=>M' b o\/Oth b o) r v/\SimB c.N Oth β A st' M' a w'/\Chg M w M' w')->
      ∃A' st' M',K A' st'/\Sim c.N Oth A' st' M' (a.put o.dst v) w'/\Chg M w M' w':=by
    rintro v w' ⟨r,st',M',hk,hv,hs,hchg⟩
    unfold qu at hk
    cases hd:o.dst with
    |none=>rw[hd]at hk;exact⟨A,st',M',hk,⟨β,hs⟩,hchg⟩
    | some d=>
      rw[hd]at hk
      obtain⟨hlt,hk⟩:=Ac hk
      exact⟨_,st',M',hk,⟨β,hs.put hlt hv⟩,hchg⟩
  unfold Oper.wp
  generalize(execOp a.eval o).run P w=res at*
  cases res with
  |halt h w'=>exact hout.elim
  | ok nx w'=>
    cases nx with
    |value v=>rw[Oper.upon_value];exact fin v w' (key v w' hout)
    | skip=>
      obtain⟨hd,hout⟩:=hout
      rw[Oper.upon_skip]
      have:=fin _ w' (key _ w' hout)
      rw[hd]at this⊢
      exact this
    |_=>exact hout.elim
theorem yfn{o:Oper}{cl:Call}{f:Operand}(ho:o.op=.call cl)(hcl:cl.callee=.value f)
    (h:match A.ev f with
      | .av (.clos g cap)=>optK (cl.args.toList.mapM λx=>(A.ev x).toAV) λvs=>
        ACalls P g (vs++cap) st λr st'=>qu A c.n o.dst (.av r) λA'=>K A' st'
      |_=>False):AOp P c.N o K A st:=by
  split at h
  · rename_i g cap hf
    obtain⟨vs,hvs,h⟩:=zq h
    rintro Oth M a w ⟨β,sim⟩
    obtain⟨capv,hcv,hcr⟩:=VRel.clos_inv (qk sim.env hf)
    obtain⟨hm1,hm2⟩:=M7 hvs
    have hr1:Reads w (λb o=>M b o\/Oth b o) vs (cl.args.map a.eval).toList:=by
      refine⟨by simp[hm1],λi x y hx hy=>?_⟩
      obtain⟨z,hz,hzz⟩:=hm2 i x hx
      have hz':cl.args[i]?=some z:=by simpa using hz
      rw[Fc3,Faq,hz]at hy
      simp at hy
      subst hy
      exact qk sim.env (L9 hzz)
    have hr:Reads w (λb o=>M b o\/Oth b o) (vs++cap) ((cl.args.map a.eval)++capv).toList:=by
      rw[Fbf]
      exact hr1.append hcr
    have hrun:(execOp a.eval o).run P w=(callFunc g ((cl.args.map a.eval)++capv)).run P w:=by
      simp[execOp,ho,resolve,hcl,hcv,Deferred.ofValue,invoke]
    have hc:=sim.call h hr
    unfold Oper.wp
    rw[hrun]
    have fin:∀v w',(∃r st' M',(qu A c.n o.dst (.av r) λA'=>K A' st')/\VRel w' (λb o=>M' b o\/Oth b o) r v/\SimB c.N Oth β A st' M' a w'/\Chg M w M' w')->
        ∃A' st' M',K A' st'/\Sim c.N Oth A' st' M' (a.put o.dst v) w'/\Chg M w M' w':=by
      rintro v w' ⟨r,st',M',hk,hv,hs,hchg⟩
      unfold qu at hk
      cases hd:o.dst with
      |none=>rw[hd]at hk;exact⟨A,st',M',hk,⟨β,hs⟩,hchg⟩
      | some d=>
        rw[hd]at hk
        obtain⟨hlt,hk⟩:=Ac hk
        exact⟨_,st',M',hk,⟨β,hs.put hlt hv⟩,hchg⟩
    generalize(callFunc g ((cl.args.map a.eval)++capv)).run P w=res at*
    cases res with
    |halt h w'=>exact hc.elim
    | ok nx w'=>
      cases nx with
      | enter f as=>
        rw[Oper.upon_enter]
        exact Calls.mono hc λe w'' ⟨v,he,hp⟩=>by subst he;exact fin v w'' hp
      |value v=>rw[Oper.upon_value];exact fin v w' hc
      |_=>exact hc.elim
  · exact h.elim
theorem yfl{o:Oper}{cl:Call}{y:Operand}{m:String}(ho:o.op=.call cl)(hcl:cl.callee=.invoke y m)(h:Px P c o cl m (A.ev y) K A st):AOp P c.N o K A st:=by
  unfold Px at h
  split at h
  · rename_i t v hf
    obtain⟨vs,hvs,g,x,⟨u,hm,hu⟩,h⟩:=zq h
    rintro Oth M a w ⟨β,sim⟩
    have hcv:a.eval y=.iface t v:=VRel.eq_s (qk sim.env hf)
    obtain⟨hm1,hm2⟩:=M7 hvs
    have hr1:Reads w (λb o=>M b o\/Oth b o) vs (cl.args.map a.eval).toList:=by
      refine⟨by simp[hm1],λi x y hx hy=>?_⟩
      obtain⟨z,hz,hzz⟩:=hm2 i x hx
      have hz':cl.args[i]?=some z:=by simpa using hz
      rw[Fc3,Faq,hz]at hy
      simp at hy
      subst hy
      exact qk sim.env (L9 hzz)
    have hr:Reads w (λb o=>M b o\/Oth b o) (x::vs) (#[u]++(cl.args.map a.eval)).toList:=by
      rw[Fbf]
      exact Reads.cons (hu _ _) hr1
    have hrun:(execOp a.eval o).run P w=(callFunc g (#[u]++(cl.args.map a.eval))).run P w:=by
      have e1:(#[Value.iface t v]++Array.map a.eval cl.args).extract 1 (#[Value.iface t v]++Array.map a.eval cl.args).size=Array.map a.eval cl.args:=by
        apply Array.ext'
        simp only[Array.toList_extract,List.extract,Fbf,Array.size_append,List.drop_succ_cons,List.singleton_append,Fcc]
        apply Fbr
        simp
      have e2:execOp a.eval o=callMethod (.iface t v) m ((#[Value.iface t v]++Array.map a.eval cl.args).extract 1 (#[Value.iface t v]++Array.map a.eval cl.args).size):=by
        have e3:(#[Value.iface t v]++Array.map a.eval cl.args)[0]?=some (Value.iface t v):=by rw[Fc2 (Nat.zero_lt_one)];rfl
        simp only[execOp,ho,resolve,hcl,hcv]
        simp only[pure_bind]
        unfold invoke
        simp only[e3]
      rw[e2,e1]
      simp[callMethod,hm]
    have hc:=sim.call h hr
    unfold Oper.wp
    rw[hrun]
    have fin:∀v w',(∃r st' M',(qu A c.n o.dst (.av r) λA'=>K A' st')/\VRel w' (λb o=>M' b o\/Oth b o) r v/\SimB c.N Oth β A st' M' a w'/\Chg M w M' w')->
        ∃A' st' M',K A' st'/\Sim c.N Oth A' st' M' (a.put o.dst v) w'/\Chg M w M' w':=by
      rintro v w' ⟨r,st',M',hk,hv,hs,hchg⟩
      unfold qu at hk
      cases hd:o.dst with
      |none=>rw[hd]at hk;exact⟨A,st',M',hk,⟨β,hs⟩,hchg⟩
      | some d=>
        rw[hd]at hk
        obtain⟨hlt,hk⟩:=Ac hk
        exact⟨_,st',M',hk,⟨β,hs.put hlt hv⟩,hchg⟩
    generalize(callFunc g (#[u]++(cl.args.map a.eval))).run P w=res at*
    cases res with
    |halt h w'=>exact hc.elim
    | ok nx w'=>
      cases nx with
      | enter f as=>
        rw[Oper.upon_enter]
        exact Calls.mono hc λe w'' ⟨v,he,hp⟩=>by subst he;exact fin v w'' hp
      |value v=>rw[Oper.upon_value];exact fin v w' hc
      |_=>exact hc.elim
  · exact h.elim
end
section
variable {P:Program} {c:Cfg} {K:Fr->Store->Prop} {A:Fr} {st:Store}
theorem Iv{α:Type}{k:Nat}:∀{rows:List (List α)} (_:∀row∈rows,row.length=k) {i j:Nat} {row:List α} {x:α},rows[i]?=some row->row[j]?=some x->rows.flatten[i*k+j]?=some x:=by
  intro rows
  induction rows with
  |nil=>intro _ i j row x h;simp at h
  | cons r rows ih=>
    intro hk i j row x h1 h2
    have hr:r.length=k:=hk r (by simp)
    cases i with
    | zero=>
      simp at h1
      subst h1
      have hj:j<r.length:=(Fai.1 h2).1
      simp only[Fcr]
      rw[Fam (by omega)]
      simpa using h2
    | succ i=>
      have:=ih (λrow h=>hk row (by simp[h])) (by simpa using h1) h2
      simp only[Fcr]
      rw[Fa1 (by rw[Fb0];omega)]
      rw[hr]
      have e:(i+1)*k+j-k=i*k+j:=by rw[Fb0];omega
      rw[e]
      exact this
theorem Bq{α:Type}{k:Nat}:∀{rows:List (List α)} (_:∀row∈rows,row.length=k),rows.flatten.length=rows.length*k:=by
  intro rows
  induction rows with
  |nil=>intro _;simp
  | cons r rows ih=>
    intro hk
    have hr:r.length=k:=hk r (by simp)
    have:=ih (λrow h=>hk row (by simp[h]))
    simp only[Fcr,Fad,Fba,this,hr,Fb0]
    omega
theorem i6(r l xs:List AV)(o:Nat):zu (r++l) (r.length+o) xs=r++zu l o xs:=by
  unfold zu
  rw[List.take_append,Ffd]
  have h1:List.take (r.length+o) r=r:=Fbr (by omega)
  have h2:List.drop (r.length+o+xs.length) r=[]:=Fdl (by omega)
  rw[h1,h2]
  have e1:r.length+o-r.length=o:=by omega
  have e2:r.length+o+xs.length-r.length=o+xs.length:=by omega
  rw[e1,e2]
  simp
theorem ybp{k:Nat}{xs:List AV}(hx:xs.length=k):∀{rows:List (List AV)} (_:∀row∈rows,row.length=k) {i:Nat},i<rows.length->(rows.set i xs).flatten=zu rows.flatten (i*k) xs:=by
  intro rows
  induction rows with
  |nil=>intro _ i h;simp at h
  | cons r rows ih=>
    intro hk i hi
    have hr:r.length=k:=hk r (by simp)
    cases i with
    | zero=>
      simp only[List.set_cons_zero,Fcr,Nat.zero_mul]
      unfold zu
      simp only[Fc8,Fc0,Fbe]
      rw[Ffd,hx,hr]
      simp[hr]
    | succ i=>
      simp only[List.set_cons_succ,Fcr]
      rw[ih (λrow h=>hk row (by simp[h])) (by simpa using hi)]
      rw[<-i6]
      congr 1
      rw[Fb0,hr]
      omega
theorem zys{k n:Nat}:∀(parts:List (Nat×LV)) (acc rows:List (List AV)),(∀row∈acc,row.length=k)->acc.length=n->He k n acc parts=some rows->
    Hm (λi=>some (i*k,k)) acc.flatten parts=some rows.flatten/\(∀row∈rows,row.length=k)/\rows.length=n:=by
  intro parts
  induction parts with
  |nil=>intro acc rows h1 h2 h;simp[He]at h;subst h;exact⟨rfl,h1,h2⟩
  | cons p parts ih=>
    intro acc rows h1 h2 h
    obtain⟨i,x⟩:=p
    simp only[He]at h
    cases x with
    | av x=>
      simp only at h
      cases hc:cellsOf x with
      |none=>rw[hc]at h;cases h
      | some xs=>
        rw[hc]at h
        simp only at h
        cases hb:(Nat.beq xs.length k&&Nat.blt i n)with
        |false=>rw[hb]at h;cases h
        | true=>
          rw[hb]at h
          simp only[cond_true]at h
          simp only[Fav]at hb
          have hx:xs.length=k:=(xw _ _).1 hb.1
          have hi:i<n:=Fbh hb.2
          obtain⟨h3,h4,h5⟩:=ih (acc.set i xs) rows (λrow hr=>by
            rcases Fez hr with h'|h'
            · exact h1 row h'
            · rw[h'];exact hx) (by simpa using h2) h
          refine⟨?_,h4,h5⟩
          have hfl:=Bq h1
          have hle:(i+1)*k<=n*k:=Fa5 k hi
          have hb2:(Nat.beq xs.length k&&Nat.ble (i*k+k) acc.flatten.length)=true:=by
            simp only[Fav]
            refine⟨(xw _ _).2 hx,Fci ?_⟩
            rw[hfl,h2]
            rw[Fb0]at hle
            omega
          simp only[Hm,hc,hb2,cond_true]
          rw[<-ybp hx h1 (by omega)]
          exact h3
    |_=>simp at h
theorem Sl{w:World}{M Oth T':Nat->Nat->Prop}{rows:List (List AV)}{k:Nat}(hk:∀row∈rows,row.length=k){cs:Array Value}{e:TypeId}{cap:Nat}
    (hr:∀(i:Nat) (x:AV),rows.flatten[i]?=some x->∃v,cs[i]?=some v/\VRel w (λb o=>M b o\/Oth b o) x v/\xa v=true) (hcap:rows.length<=cap) (tok:Option Nat)
    (hT:Keeps w (λb o=>M b o\/Oth b o) (w.alloc (.cells cs e)) T') (hno:∀o,o<rows.length*k->¬T' w.heap.size o)
    (htok:∀t,tok=some t->t=w.heap.size/\rows≠[]/\cap*k<=cs.size):
    VRel (w.alloc (.cells cs e)) T' (.lst k rows tok) (.slice (some ⟨w.heap.size,0,none⟩) rows.length cap):=by
  have hlen:=Bq hk
  have hlt:∀(i:Nat) (row:List AV) (j:Nat) (x:AV),rows[i]?=some row->row[j]?=some x->i*k+j<rows.length*k:=by
    intro i row j x h1 h2
    have:=(Fai.1 (Iv hk h1 h2)).1
    omega
  refine VRel.lst rows tok w.heap.size 0 cap k (λj=>cs.getD j undef) hcap (λi row h=>hk row (Fay h)) (λt ht=>?_) (λi row j x h1 h2=>?_) (λi row j x h1 h2=>?_) (λi row j x h1 h2=>?_)
  · obtain⟨h1,h2,h3⟩:=htok t ht
    exact⟨h1,rfl,h2,cs,e,(0,0),Hg w _,h3⟩
  · obtain⟨v,hv,_⟩:=hr _ x (Iv hk h1 h2)
    refine⟨?_,by simpa using hno _ (hlt i row j x h1 h2)⟩
    simp only[Fbe]
    rw[World.cell?_alloc_new]
    simp[hv]
  · obtain⟨v,hv,_,hv1⟩:=hr _ x (Iv hk h1 h2)
    have:cs.getD (i*k+j) undef=v:=by simp[hv]
    simp only[this]
    exact hv1
  · obtain⟨v,hv,hvr,_⟩:=hr _ x (Iv hk h1 h2)
    have:cs.getD (i*k+j) undef=v:=by simp[hv]
    simp only[this]
    exact hvr.keep hT
theorem sc(w:World)(o:Obj)(M Oth:Nat->Nat->Prop)(top:Nat):Keeps w (λb o=>M b o\/Oth b o) (w.alloc o) (λb o=>Sb M w.heap.size top b o\/Oth b o) where
  cell:=(Gc w o M Oth).cell
  out b o' c hc hT hT':=by
    rcases hT' with(h|h)|h
    · exact hT (.inl h)
    · have:=Lu hc;omega
    · exact hT (.inr h)
  shp:=(Gc w o M Oth).shp
theorem zui(z:Array Value)(n:Nat)(hz:0<z.size):((Array.range (n*z.size)).map (λi=>z[i%z.size]!)).toList=(List.replicate n z.toList).flatten:=by
  induction n with
  |zero=>simp
  | succ n ih=>
    rw[List.replicate_succ',Fet,<-ih]
    simp only[Fc3,Array.toList_range,Fb0,Nat.one_mul,List.range_add,Fbk,List.map_map,Fcr,List.flatten_nil,Fbv]
    congr 1
    apply Fck
    intro i
    simp only[Faq]
    by_cases hi:i<z.size
    · simp[hi,Nat.mod_eq_of_lt hi]
    · simp[hi]
theorem zbs{o:Oper}{t:TypeId}{n:Nat}{parts:Array (Nat×Operand)}(ho:o.op=.buildSlice t n parts)(hI:y9 P c.I)
    (h:optK (c.I t) λi=>optK o.dst λd=>bif Nat.blt d c.n then(match i.ty with
      | .slice e=>optK (c.I e) λie=>optK (He ie.size n (List.replicate n (Af ie)) (parts.toList.map λp=>(p.1,A.ev p.2))) λrows=>
        bif rows.flatten.all AV.one then n*ie.size<=16777216/\(match rows with
          |[]=>K (A.put d (.av .emp)) st
          | _ ::_=>bif c.G.contains d then(bif c.G.contains (d+1000000)then∀b,Fresh st b->K (A.put d (.av (.s (.slice (some ⟨b,0,none⟩) rows.length rows.length)))) (st.sO b (.cells rows.flatten))
              else∀b,Fresh st b->K (A.put d (.av (.lst ie.size rows (some b)))) (st.sT b (some (rows.length*ie.size))))
            else K (A.put d (.av (.lst ie.size rows none))) st)else False
      |_=>False)else False):AOp P c.N o K A st:=by
  obtain⟨i,hi,h⟩:=zq h
  obtain⟨d,hd,h⟩:=zq h
  obtain⟨hlt,h⟩:=Ac h
  split at h
  · rename_i e hty
    obtain⟨ie,hie,h⟩:=zq h
    replace h:=zq h
    obtain⟨rows,hrows,h⟩:=h
    cases hone:rows.flatten.all AV.one with
    |false=>rw[hone]at h;exact h.elim
    |true=>
    rw[hone]at h
    simp only[cond_true]at h
    obtain⟨hroom,hK⟩:=h
    rintro Oth M a w ⟨β,sim⟩
    obtain⟨z,hz1,hz2⟩:=Mk (hI _ _ hie) w
    have hzs:z.cells.size=ie.size:=by rw[<-(hI _ _ hie).zsz,<-hz2];simp
    obtain⟨hf1,hf2,hf3⟩:=zys _ _ rows (λrow hr=>by
      rw[List.eq_of_mem_replicate hr]
      simp[Af,(hI _ _ hie).zsz]) (by simp) hrows
    let base:Array Value:=(Array.range (n*ie.size)).map (λi=>(if n*ie.size=0 then #[]else z.cells)[i%(if n*ie.size=0 then #[]else z.cells).size]!)
    have hbase:Reads w (λb o=>M b o\/Oth b o) (List.replicate n (Af ie)).flatten base.toList:=by
      by_cases hn:n=0
      · subst hn
        simpa [base]using(Reads.nil (w:=w) (T:=λb o=>M b o\/Oth b o))
      · by_cases hs0:ie.size=0
        · have e1:base.toList=[]:=by simp[base,hs0]
          have e2:(List.replicate n (Af ie)).flatten=[]:=by
            have:Af ie=[]:=Faw (by simp[Af,(hI _ _ hie).zsz,hs0])
            rw[this]
            simp
          rw[e1,e2]
          exact Reads.nil
        have hne:¬n*ie.size=0:=by
          intro h0
          rcases Nat.mul_eq_zero.1 h0 with h|h<;>omega
        have:base.toList=(List.replicate n z.cells.toList).flatten:=by
          simp only[base,hne,if_false]
          rw[<-hzs]
          exact zui z.cells n (by omega)
        rw[this,hz2]
        have e:(List.replicate n (Af ie)).flatten=(List.replicate n ie.zero).flatten.map AV.s:=by
          rw[List.map_flatten]
          simp[Af]
        rw[e]
        exact Reads.map_s _
    have hparts:((parts.toList.map λp=>(p.1,A.ev p.2))).length=(parts.map λ(p:Nat×Operand)=>(p.1,a.eval p.2)).toList.length∧
        ∀(i:Nat) (p:Nat×LV) (v:Nat×Value),(parts.toList.map λp=>(p.1,A.ev p.2))[i]?=some p->(parts.map λ(p:Nat×Operand)=>(p.1,a.eval p.2)).toList[i]?=some v->p.1=v.1/\LRel w (λb o=>M b o\/Oth b o) β p.2 v.2:=by
      refine⟨by simp,λi p v hp hv=>?_⟩
      rw[Fc3,Faq]at hv
      rw[Faq]at hp
      cases hq:parts.toList[i]? with
      |none=>rw[hq]at hp;cases hp
      | some q=>
        rw[hq]at hp hv
        simp at hp hv
        subst hp hv
        exact⟨rfl,sim.ev _⟩
    obtain⟨ds,hds1,hds2⟩:=bz (β:=β) (place:=λi=>some (i*ie.size,ie.size)) _ _ _ base rows.flatten hparts.1 hparts.2 hbase hf1
    have hrun:(execOp a.eval o).run P w=.ok (.value (.slice (some ⟨w.heap.size,0,none⟩) n n)) (w.alloc (.cells ds e)):=by
      have h1:¬n*ie.size>2^24:=by omega
      simp only[execOp,ho,Instr.buildSlice,Sem.run_bind,ym (jr (hI _ _ hi) hty),Result.andThen_ok,ki (hI _ _ hie),h1,if_false]
      by_cases hn0:n*ie.size=0
      · have h2:Instr.fill (λi=>some (i*ie.size,ie.size)) (Array.map (λx=>(#[]:Array Value)[x%(#[]:Array Value).size]!) (Array.range (n*ie.size))) (Array.map (λ(x:Nat×Operand)=>(x.1,a.eval x.2)) parts).toList=some ds:=by
          have:=hds1
          simp only[base,hn0,if_true]at this⊢
          exact this
        rw[if_pos hn0]
        simp only[Sem.run_bind,Sem.run_pure,Result.andThen_ok,h2]
        simp[newRow]
      · have h2:Instr.fill (λi=>some (i*ie.size,ie.size)) (Array.map (λx=>z.cells[x%z.cells.size]!) (Array.range (n*ie.size))) (Array.map (λ(x:Nat×Operand)=>(x.1,a.eval x.2)) parts).toList=some ds:=by
          have:=hds1
          simp only[base,hn0,if_false]at this⊢
          exact this
        rw[if_neg hn0]
        simp only[Sem.run_bind,hz1,Sem.run_pure,Result.andThen_ok,h2]
        simp[newRow]
    unfold Oper.wp
    rw[hrun,Oper.upon_value,hd]
    have hlen:=Bq hf2
    have hdsz:ds.size=n*ie.size:=by
      have:=hds2.1
      rw[hlen,hf3]at this
      simpa using this.symm
    have hread:∀(i:Nat) (x:AV),rows.flatten[i]?=some x->∃v,ds[i]?=some v/\VRel w (λb o=>M b o\/Oth b o) x v/\xa v=true:=λi x hx=>by
      obtain⟨v,hv,hvr⟩:=hds2.getElem? hx
      exact⟨v,by simpa using hv,hvr,Wi hvr (Fb6.1 hone _ (Fay hx))⟩
    have hnoT:∀o,¬(M w.heap.size o\/Oth w.heap.size o):=λo h=>by
      rcases h with h|h
      · have:=sim.sto.mlt _ _ h;omega
      · have:=sim.sto.olt _ _ h;omega
    subst hf3
    cases rows with
    |nil=>exact⟨_,_,M,hK,⟨β,(sim.grow (Grow.alloc w _)).put hlt (x:=.av .emp) (VRel.emp _ (λx h=>by cases h;rfl))⟩,(Grow.alloc w _).chg M⟩
    | cons r rs=>
      cases hg:c.G.contains d with
      | true=>
        cases hg2:c.G.contains (d+1000000)with
        | true=>
          simp only[hg,hg2,cond_true]at hK
          refine⟨_,_,_,hK w.heap.size (sim.sto.fresh (Faj _)),⟨β,(sim.newObj (.cells ds e) (.cells (r::rs).flatten) (Nw w e M Oth hds2)).put hlt (VRel.s _)⟩,Hs _ _ _⟩
        |false=>
        simp only[hg,hg2,cond_true,cond_false]at hK
        refine⟨_,_,_,hK w.heap.size (sim.sto.fresh (Faj _)),⟨β,(sim.newTok ds e ((r::rs).length*ie.size) (by omega)).put hlt ?_⟩,zat _ _ _ _⟩
        refine Sl hf2 hread (Faj _) _ (sc _ _ _ _ _) (λo ho hh=>?_) (λt ht=>?_)
        · rcases hh with(h|h)|h
          · exact hnoT o (.inl h)
          · omega
          · exact hnoT o (.inr h)
        · cases ht;exact⟨rfl,by simp,by omega⟩
      | false=>
        simp only[hg,cond_false]at hK
        refine⟨_,_,M,hK,⟨β,(sim.grow (Grow.alloc w _)).put hlt ?_⟩,(Grow.alloc w _).chg M⟩
        exact Sl hf2 hread (Faj _) _ ((Grow.alloc w _).keeps _) (λo ho hh=>hnoT o hh) (λt ht=>by cases ht)
  · exact h.elim
end
section
variable {P:Program} {c:Cfg} {K:Fr->Store->Prop} {A:Fr} {st:Store}
theorem zs5(n:Nat)(w:World):(askRoom n).run P w=.ok () w:=by
  unfold askRoom
  split<;>simp[mark,Sem.run]
theorem zs4(need old e:Nat)(w:World):∃n,need<=n/\(need<=140737488355328->n<=9223372036854775807)/\(choose (.appendCap need old e)).run P w=.ok n w.drew:=by
  refine⟨need+w.tape w.drawn (.appendCap need old e)%(2^63-need),Nat.le_add_right _ _,λh=>?_,rfl⟩
  have:=Nat.mod_lt (w.tape w.drawn (.appendCap need old e)) (show 0<2^63-need by omega)
  omega
structure AppArgs(P:Program)(c:Cfg)(argTypes:Array TypeId)(args:Array Value)(t e:TypeId)(ie:TI)(base:Option Addr)(sLen sCap:Nat)(xv:Value):Prop where
  ht:argTypes[0]?=some t
  ht1:∃t1 e1,argTypes[1]?=some t1/\P.underlying t1=some (.slice e1)
  hty:P.underlying t=some (.slice e)
  hie:TIok P e ie
  h0:args[0]?=some (.slice base sLen sCap)
  h1:args[1]?=some xv
theorem I8{argTypes:Array TypeId}{args:Array Value}{t e:TypeId}{ie:TI}{base:Option Addr}{sLen sCap n:Nat}{xv:Value}(ty:TypeId)(h:AppArgs P c argTypes args t e ie base sLen sCap xv){w:World}{old new:Array Value}
    (hlen:(Builtin.lenOf xv).run P w=.ok n w) (hnew:(Builtin.firstCells ie.size n xv).run P w.drew=.ok new w.drew) (hold:(Builtin.firstCells ie.size sLen (.slice base sLen sCap)).run P w.drew=.ok old w.drew)
    (hneed:sCap<sLen+n) (hroom:room (sLen+n) ie.bytes):
    ∃ newCap rest,sLen+n<=newCap/\newCap<=9223372036854775807/\rest.size=(newCap-(sLen+n))*ie.size∧
      (Builtin.append_ argTypes ty args).run P w=.ok (.slice (some ⟨w.heap.size,0,none⟩) (sLen+n) newCap) (w.drew.alloc (.cells (old++new++rest) e)):=by
  obtain⟨newCap,hcap,hcap2,hch⟩:=zs4 (P:=P) (sLen+n) sCap e w
  obtain⟨z,hz1,hz2⟩:=Mk h.hie w.drew
  obtain⟨t1,e1,ht1,hu1⟩:=h.ht1
  obtain⟨inf,hinf,hsz,hby,_⟩:=h.hie.info
  have hzs:z.cells.size=ie.size:=by rw[<-h.hie.zsz,<-hz2];simp
  refine⟨newCap,Builtin.zeroCells z.cells (newCap-(sLen+n)),hcap,hcap2 hroom.2,by simp[Builtin.zeroCells,hzs],?_⟩
  obtain⟨hr1,hr2⟩:=hroom
  have hc1:¬(sLen+n<=sCap):=by omega
  have hc2:¬(((sLen+n:Nat):Int)>IntKind.i64.max):=by
    simp[IntKind.max,IntKind.signed,IntKind.bits]
    omega
  have hc3:¬(Builtin.nextslicecap (sLen+n) sCap*ie.bytes>2^48):=by
    have h1:=nextslicecap_le hneed
    have h2:Builtin.nextslicecap (sLen+n) sCap*ie.bytes<=2*(sLen+n)*ie.bytes:=Fa5 _ h1
    rw[Nat.mul_assoc]at h2
    omega
  have hti:∀w:World,(typeInfo e).run P w=.ok inf w:=λw=>by simp[typeInfo,hinf]
  simp only[Builtin.append_,h.ht,h.h0,h.h1,Sem.run_bind,ym h.hty,Result.andThen_ok,ki h.hie,ht1,ym hu1,Sem.run_pure]
  simp only[Fah,if_false,hlen,Result.andThen_ok,hc1,hc2,false_and,Sem.run_bind,hti,hby,hc3,hch,zs5,hold,hnew,Bool.not_false,if_true,hz1]
  simp[newRow]
  rfl
theorem I7{argTypes:Array TypeId}{args:Array Value}{t e:TypeId}{ie:TI}{base:Option Addr}{sLen sCap n:Nat}{xv:Value}(ty:TypeId)(h:AppArgs P c argTypes args t e ie base sLen sCap xv){w w':World}{new:Array Value}
    (hlen:(Builtin.lenOf xv).run P w=.ok n w) (hnew:(Builtin.firstCells ie.size n xv).run P w=.ok new w)
    (hneed:sLen+n<=sCap) (hst:∀a,base=some a->(storeCells (a.add (sLen*ie.size)) new.toList).run P w=.ok () w') (hno:base=none->w'=w):
    (Builtin.append_ argTypes ty args).run P w=.ok (.slice base (sLen+n) sCap) w':=by
  obtain⟨t1,e1,ht1,hu1⟩:=h.ht1
  simp only[Builtin.append_,h.ht,h.h0,h.h1,Sem.run_bind,ym h.hty,Result.andThen_ok,ki h.hie,ht1,ym hu1,Sem.run_pure]
  simp only[Fah,if_false,hlen,Result.andThen_ok,hneed,if_true,Bool.not_false,Sem.run_bind,hnew]
  cases base with
  |none=>rw[hno rfl];simp
  |some a=>simp[hst a rfl]
theorem Rh{α:Type}{k:Nat}:∀{rows:List (List α)} (_:∀row∈rows,row.length=k) {p:Nat} {x:α},rows.flatten[p]?=some x->∃(i j:Nat) (row:List α),p=i*k+j/\rows[i]?=some row/\row[j]?=some x:=by
  intro rows
  induction rows with
  |nil=>intro _ p x h;simp at h
  | cons r rows ih=>
    intro hk p x h
    have hr:r.length=k:=hk r (by simp)
    simp only[Fcr]at h
    by_cases hp:p<r.length
    · rw[Fam hp]at h
      exact⟨0,p,r,by omega,rfl,h⟩
    · rw[Fa1 (by omega)]at h
      obtain⟨i,j,row,h1,h2,h3⟩:=ih (λrow h=>hk row (by simp[h])) h
      exact⟨i+1,j,row,by rw[Fb0];omega,by simpa using h2,h3⟩
theorem P8{w w':World}(h:w'.heap=w.heap)(a:Addr):w'.cell? a=w.cell? a:=by simp only[World.cell?,h]
theorem G4{w:World}{T:Nat->Nat->Prop}{β:Nat->Nat}{k:Nat}{x:LV}{xv:Value}{rows:List (List AV)}(hx:LRel w T β x xv)(h:k9 k x=some rows):
    (Builtin.lenOf xv).run P w=.ok rows.length w/\(∀row∈rows,row.length=k)∧
      ∃new:Array Value,Reads w T rows.flatten new.toList/\(∀v∈new.toList,xa v=true)/\new.size=rows.length*k/\∀w',w'.heap=w.heap->(Builtin.firstCells k rows.length xv).run P w'=.ok new w':=by
  unfold k9 at h
  split at h
  · rename_i k' rows' tok
    cases hb:Nat.beq k' k with
    |false=>rw[hb]at h;cases h
    | true=>
      rw[hb]at h
      simp only[cond_true,Fal]at h
      subst h
      obtain rfl:=(xw _ _).1 hb
      rcases L6 hx with⟨ad,cap,hv,h2,_,rfl⟩|⟨b,off,cap,hv,hcap,hk,f,hf⟩
      · subst h2
        exact⟨by simp[hv,Builtin.lenOf],by simp,#[],Reads.nil,by simp,by simp,λw' _=>by cases ad<;>simp[hv,Builtin.firstCells,loadCells,loadCellsFrom]⟩
      · have hk':∀row∈rows',row.length=k':=λrow hr=>by
          obtain⟨i,hi⟩:=Fbb.1 hr
          exact hk i row hi
        refine⟨by simp[hv,Builtin.lenOf],hk',((List.range' 0 (rows'.length*k')).map f).toArray,⟨?_,?_⟩,λv hv=>?_,by simp,λw' hw=>?_⟩
        · rw[Bq hk'];simp
        · intro p x y hp hy
          obtain⟨i,j,row,h1,h2,h3⟩:=Rh hk' hp
          have hlt:=(Fai.1 hp).1
          rw[Bq hk']at hlt
          simp[hlt]at hy
          subst hy
          subst h1
          exact(hf i row j x h2 h3).2.2.1
        · simp only[Fae]at hv
          obtain⟨p,hp,rfl⟩:=hv
          have hlt:p<rows'.flatten.length:=by rw[Bq hk'];simpa using hp
          obtain⟨i,j,row,h1,h2,h3⟩:=Rh hk' (Fab hlt)
          subst h1
          exact(hf i row j _ h2 h3).2.2.2
        · have:=Ic (P:=P) ⟨b,off,none⟩ w' f (rows'.length*k') 0 #[] (λp _ hp=>by
            rw[wd,P8 hw]
            have hlt:p<rows'.flatten.length:=by rw[Bq hk'];omega
            obtain⟨i,j,row,h1,h2,h3⟩:=Rh hk' (Fab hlt)
            subst h1
            exact(hf i row j _ h2 h3).1)
          simp only[hv,Builtin.firstCells,loadCells]
          simpa using this
  · simp at h
    subst h
    have hv:xv=.slice none 0 _:=VRel.eq_s hx
    exact⟨by simp[hv,Builtin.lenOf],by simp,#[],Reads.nil,by simp,by simp,λw' _=>by simp[hv,Builtin.firstCells]⟩
  · simp at h
    subst h
    have hv:∃a,xv=.slice a 0 0:=by
      cases hx with
      |emp a h=>exact⟨a,rfl⟩
    obtain⟨a,hv⟩:=hv
    refine⟨by simp[hv,Builtin.lenOf],by simp,#[],Reads.nil,by simp,by simp,λw' _=>?_⟩
    cases a with
    |none=>simp[hv,Builtin.firstCells]
    |some a=>simp[hv,Builtin.firstCells,loadCells,loadCellsFrom]
  · cases h
theorem Owned.nil(k:Nat)(st:Store):Owned k st .emp [] st:=.inl ⟨rfl,rfl,rfl⟩
theorem SimB.appendNew{n:SN}{Oth M:Nat->Nat->Prop}{β:Nat->Nat}{a:Act}{w:World}(sim:SimB n Oth β A st M a w){rows:List (List AV)}{k:Nat}(hk:∀row∈rows,row.length=k)(hne:rows≠[])
    {cs:Array Value} {e:TypeId} {cap:Nat} (hr:∀(i:Nat) (x:AV),rows.flatten[i]?=some x->∃v,cs[i]?=some v/\VRel w (λb o=>M b o\/Oth b o) x v/\xa v=true) (hcap:rows.length<=cap) (hsz:cap*k<=cs.size):
    ∃ st' M',Owned k st (.lst k rows (some w.heap.size)) rows st'/\SimB n Oth β A st' M' a (w.drew.alloc (.cells cs e))/\Chg M w M' (w.drew.alloc (.cells cs e))∧
      VRel (w.drew.alloc (.cells cs e)) (λb o=>M' b o\/Oth b o) (.lst k rows (some w.heap.size)) (.slice (some ⟨w.heap.size,0,none⟩) rows.length cap):=by
  have hle:rows.length*k<=cap*k:=Fa5 k hcap
  refine⟨_,_,.inr ⟨hne,w.heap.size,sim.sto.fresh (Faj _),rfl,rfl⟩,(sim.grow (Grow.drew w)).newTok cs e (rows.length*k) (by omega),((Grow.drew w).chg M).trans (zat w.drew _ M _),?_⟩
  refine Sl (w:=w.drew) (M:=M) (Oth:=Oth) hk (λi x hx=>?_) hcap _ (sc w.drew _ _ _ _) (λo ho hh=>?_) (λt ht=>?_)
  · obtain⟨v,h1,h2,h3⟩:=hr i x hx
    exact⟨v,h1,h2.keep ((Grow.drew w).keeps _),h3⟩
  · rcases hh with(h|h)|h
    · have:=sim.sto.mlt _ _ h;exact absurd this (Fdg _)
    · omega
    · have:=sim.sto.olt _ _ h;exact absurd this (Fdg _)
  · cases ht;exact⟨rfl,hne,hsz⟩
theorem getElem?_append3{old new rest:Array Value}{i:Nat}{v:Value}(h:(old.toList++new.toList)[i]?=some v):(old++new++rest)[i]?=some v:=by
  have hlt:=(Fai.1 h).1
  rw[<-Fb8,Fbf,Fbf,Fam hlt]
  exact h
theorem zc0{w:World}{T:Nat->Nat->Prop}{k:Nat}{rows:List (List AV)}{b:Nat}{base:Option Addr}{sLen sCap:Nat}(h:VRel w T (.lst k rows (some b)) (.slice base sLen sCap)):
    base=some ⟨b,0,none⟩/\sLen=rows.length/\rows.length<=sCap/\rows≠[]/\(∀row∈rows,row.length=k)/\(∃c e fr,w.heap[b]?=some (.cells c e fr)/\sCap*k<=c.size)/\∃f:Nat->Value,
      (∀(i:Nat) (row:List AV) (j:Nat) (x:AV),rows[i]?=some row->row[j]?=some x->w.cell? ⟨b,i*k+j,none⟩=some (f (i*k+j))/\¬T b (i*k+j)/\VRel w T x (f (i*k+j))/\xa (f (i*k+j))=true):=by
  cases h with
  | lst _ _ b' off cap _ f hcap hk htok hc h0 hx=>
    obtain⟨rfl,rfl,h1,h2⟩:=htok b rfl
    refine⟨rfl,rfl,hcap,h1,λrow hr=>?_,h2,f,λi row j x h3 h4=>?_⟩
    · obtain⟨i,hi⟩:=Fbb.1 hr
      exact hk i row hi
    · have:=hc i row j x h3 h4
      simp only[Fbe]at this
      exact⟨this.1,this.2,hx i row j x h3 h4,h0 i row j x h3 h4⟩
theorem dz{n:SN}{Oth M:Nat->Nat->Prop}{β:Nat->Nat}{a:Act}{w:World}(sim:SimB n Oth β A st M a w){argTypes:Array TypeId}{args:Array Value}{t e:TypeId}{ie:TI}{base:Option Addr}{sLen sCap:Nat}{xv:Value}(ty:TypeId)
    (h:AppArgs P c argTypes args t e ie base sLen sCap xv) {x:LV} (hx:LRel w (λb o=>M b o\/Oth b o) β x xv) {rows':List (List AV)} (hs:k9 ie.size x=some rows'):
    ((sLen=0/\sCap=0/\∀x,base=some x->x.spot=none)->room rows'.length ie.bytes->∃v w' r st' M',(Builtin.append_ argTypes ty args).run P w=.ok v w'/\Owned ie.size st r rows' st'/\SimB n Oth β A st' M' a w'/\Chg M w M' w'/\VRel w' (λb o=>M' b o\/Oth b o) r v)∧
    (∀rows b,0<ie.size->VRel w (λb o=>M b o\/Oth b o) (.lst ie.size rows (some b)) (.slice base sLen sCap)->st.tok b=some (rows.length*ie.size)->room (rows++rows').length ie.bytes->
      ∃v w' r st' M',(Builtin.append_ argTypes ty args).run P w=.ok v w'/\Owned ie.size (st.sT b none) r (rows++rows') st'/\SimB n Oth β A st' M' a w'/\Chg M w M' w'/\VRel w' (λb o=>M' b o\/Oth b o) r v):=by
  obtain⟨hlen,hk',new,hnr,hone,hns,hnew⟩:=G4 (P:=P) hx hs
  constructor
  · rintro⟨rfl,rfl,hspot⟩ hroom
    by_cases hn:rows'=[]
    · subst hn
      refine⟨_,w,.emp,st,M,I7 ty h (w':=w) hlen (hnew w rfl) (by simp) (λa ha=>?_) (λ_=>rfl),Owned.nil _ _,sim,Chg.refl M w,VRel.emp _ hspot⟩
      have:new.toList=[]:=by
        apply Faw
        rw[Fb4,hns]
        simp
      rw[this]
      simp[storeCells]
    · have hpos:0<rows'.length:=List.length_pos_iff.2 hn
      obtain⟨newCap,rest,h1,_,h2,h3⟩:=I8 ty h (old:=#[]) hlen (hnew w.drew rfl) (by cases base<;>simp[Builtin.firstCells,loadCells,loadCellsFrom]) (by omega) (by simpa using hroom)
      simp only[Fbe]at h1 h2 h3
      obtain⟨st',M',ho,hsim,hchg,hv⟩:=sim.appendNew (cs:=#[]++new++rest) (e:=e) (cap:=newCap) hk' hn (λi x hx=>by
        obtain⟨v,hv,hvr⟩:=hnr.getElem? hx
        exact⟨v,getElem?_append3 (by simpa using hv),hvr,hone v (Fay hv)⟩) h1 (by
          simp only[Array.size_append,hns,h2,Array.size_empty]
          have:=Fa5 ie.size h1
          rw[Nat.sub_mul]
          omega)
      exact⟨_,_,_,st',M',h3,ho,hsim,hchg,hv⟩
  · intro rows b hpos hsv htb hroom
    obtain⟨rfl,rfl,hcap,hne,hk,⟨c0,e0,fr0,hblk,hcsz⟩,f,hf⟩:=zc0 hsv
    have hkk:∀row∈rows++rows',row.length=ie.size:=λrow hr=>by
      rcases Fan.1 hr with h|h
      · exact hk row h
      · exact hk' row h
    obtain⟨c1,e1,fr1,hb1,hunf,htop,hMtop⟩:=sim.sto.tok b _ htb
    rw[hblk]at hb1
    cases hb1
    -- the first cell
    have hfirst:¬M b 0:=by
      cases rows with
      |nil=>exact absurd rfl hne
      | cons r rs=>
        have hr:r.length=ie.size:=hk r (by simp)
        cases r with
        |nil=>simp at hr;omega
        | cons y ys=>
          have:=(hf 0 (y::ys) 0 y rfl rfl).2.1
          simp at this
          exact this.1
    have hold:∀p,p<rows.length*ie.size->w.cell? ⟨b,p,none⟩=some (f p)/\¬(M b p\/Oth b p)/\xa (f p)=true/\∀x,rows.flatten[p]?=some x->VRel w (λb o=>M b o\/Oth b o) x (f p):=λp hp=>by
      have hlt:p<rows.flatten.length:=by rw[Bq hk];omega
      obtain⟨i,j,row,h1,h2,h3⟩:=Rh hk (Fab hlt)
      have:=hf i row j _ h2 h3
      rw[<-h1]at this
      refine⟨this.1,this.2.1,this.2.2.2,λx hx=>?_⟩
      rw[Fab hlt]at hx
      cases hx
      exact this.2.2.1
    have holdR:Reads w (λb o=>M b o\/Oth b o) rows.flatten ((List.range' 0 (rows.length*ie.size)).map f):=by
      refine⟨by rw[Bq hk];simp,λp x y hp hy=>?_⟩
      have hlt:=(Fai.1 hp).1
      rw[Bq hk]at hlt
      simp[hlt]at hy
      subst hy
      exact(hold p hlt).2.2.2 x hp
    by_cases hstay:rows.length+rows'.length<=sCap
    · have hle:(rows.length+rows'.length)*ie.size<=sCap*ie.size:=Fa5 _ hstay
      have hdist:(rows.length+rows'.length)*ie.size=rows.length*ie.size+rows'.length*ie.size:=Fb0 _ _ _
      have h9:new.toList.length=rows'.length*ie.size:=by simpa using hns
      have h10:rows.length*ie.size+0+new.toList.length<=c0.size:=by omega
      obtain⟨w',hrun,hw⟩:=Kx (P:=P) w b (rows.length*ie.size) new.toList 0 w c0 e0 fr0 hblk hunf h10 hone
      simp only[Fey]at hw
      have happ:=I7 (P:=P) ty h (w':=w') hlen (hnew w rfl) hstay (λa ha=>by cases ha;rw[wd];simpa using hrun) (λhh=>by cases hh)
      let M':Nat->Nat->Prop:=λb' o=>M b' o/\¬(b'=b/\o<(rows.length+rows'.length)*ie.size)
      obtain⟨c',hblk',hl',hs'⟩:=hw.blk _ _ _ hblk
      have hcellb:∀o,o<rows.length*ie.size->w'.cell? ⟨b,o,none⟩=w.cell? ⟨b,o,none⟩:=λo ho=>by
        simp only[World.cell?,hblk',hblk]
        rw[<-Fb8,hl',Fa3,Fam (by simp;omega),Fdm]
        simp[ho]
      have hcelln:∀j v,new[j]?=some v->w'.cell? ⟨b,rows.length*ie.size+j,none⟩=some v:=λj v hv=>by
        have hj:=(Fbm.1 hv).1
        simp only[World.cell?,hblk']
        have hm:min (rows.length*ie.size) c0.size=rows.length*ie.size:=by omega
        have:c'.toList[rows.length*ie.size+j]?=some v:=by
          rw[hl',Fa3,Fa1 (by simp;omega)]
          simp only[Fao,Fb4,hm]
          rw[Fe8,Fam (by simpa using hj)]
          simpa using hv
        simpa using this
      have hkeep:Keeps w (λb o=>M b o\/Oth b o) w' (λb o=>M' b o\/Oth b o):=
        { cell:=λb' o' v hv hT=>by
            by_cases he:b'=b
            · subst he
              have ho:o'<rows.length*ie.size:=by
                rcases Feg o' (rows.length*ie.size)with h|h
                · exact h
                · exact absurd (hMtop o' h) λh=>hT (.inl h)
              rw[hcellb o' ho]
              exact hv
            · rw[Da (hw.other b' he)]
              exact hv
          out:=λb' o' v hv hT hT'=>hT (hT'.imp (λh=>h.1) id)
          shp:=λb' c e fr hc=>by
            by_cases he:b'=b
            · subst he
              rw[hblk]at hc
              cases hc
              exact⟨c',fr0,hblk',hs'⟩
            · exact⟨c,fr,by rw[hw.other b' he];exact hc,rfl⟩}
      have hobjb:st.obj b=none:=by
        cases ho:st.obj b with
        |none=>rfl
        |some x=>exact absurd ((sim.sto.obj b x ho).2 0) hfirst
      have hbxb:∀k l,A.bx k=some l->β k≠b:=λk l hl=>sim.sep k b (by rw[hl];simp) (.inr (by rw[htb];simp))
      have hsim:SimB n Oth β A ((st.sT b none).sT b (some ((rows++rows').length*ie.size))) M' a w':=
        { tsz:=sim.tsz
          dfr:=sim.dfr.step λD _ _ h2=>⟨hw.other D λe=>(h2 _).1 (e▸hMtop _ (Faj _)),λo hm=>(h2 o).1 hm.1⟩
          tm:=λi=>(sim.tm i).keep hkeep
          bx:=λk l hl=>⟨(sim.bx k l hl).1.same hkeep (hw.other _ (hbxb k l hl)),λo=>⟨(sim.bx k l hl).2 o,λhh=>hbxb k l hl hh.1⟩⟩
          inj:=sim.inj
          sep:=λk b' hk hb=>by
            refine sim.sep k b' hk ?_
            by_cases he:b'=b
            · subst he;exact .inr (by rw[htb];simp)
            · simpa [Store.sT,qc he]using hb
          sto:=
            { obj:=λb' x hx=>by
                have hx':st.obj b'=some x:=hx
                have he:b'≠b:=λe=>by rw[e,hobjb]at hx';cases hx'
                exact⟨ObjRel.same (sim.sto.obj b' x hx').1 hkeep (hw.other b' he),λo=>⟨(sim.sto.obj b' x hx').2 o,λhh=>he hh.1⟩⟩
              tok:=λb' top ht=>by
                by_cases he:b'=b
                · subst he
                  simp only[Store.sT,Fbw,cond_true,Fal]at ht
                  subst ht
                  refine⟨c',e0,fr0,hblk',by rw[hs'];exact hunf,?_,λo ho=>⟨hMtop o ?_,λhh=>?_⟩⟩
                  · rw[hs',Fad];omega
                  · rw[Fad]at ho;omega
                  · rw[Fad]at ho;omega
                · simp only[Store.sT,qc he,cond_false]at ht
                  obtain⟨c,e,fr,h1,h2,h3,h4⟩:=sim.sto.tok b' top ht
                  exact⟨c,e,fr,by rw[hw.other b' he];exact h1,h2,h3,λo ho=>⟨h4 o ho,λhh=>he hh.1⟩⟩
              mlt:=λb' o hm=>by rw[hw.size];exact sim.sto.mlt b' o hm.1
              olt:=λb' o hm=>by rw[hw.size];exact sim.sto.olt b' o hm
              dis:=λb' o hO hM=>sim.sto.dis b' o hO hM.1}}
      have hchg:Chg M w M' w':=
        { size:=by rw[hw.size];exact Faj _
          keep:=λb' o hb hm=>by
            by_cases he:b'=b
            · subst he
              have ho:o<rows.length*ie.size:=by
                rcases Feg o (rows.length*ie.size)with h|h
                · exact h
                · exact absurd (hMtop o h) hm
              exact hcellb o ho
            · exact Da (hw.other b' he) o
          blk:=λb' hb hm=>hw.other b' λe=>hm (rows.length*ie.size) (by subst e;exact hMtop _ (Faj _))
          shp:=hkeep.shp
          sub:=λb' o hm _=>hm.1
          tape:=hw.tape
          os:=hw.os
          output:=hw.output}
      refine⟨_,w',.lst ie.size (rows++rows') (some b),_,M',happ,.inr ⟨by simp[hne],b,⟨hobjb,by simp[Store.sT]⟩,rfl,rfl⟩,hsim,hchg,?_⟩
      rw[<-Fad]
      have hget:∀p x,(rows++rows').flatten[p]?=some x->∃v,w'.cell? ⟨b,p,none⟩=some v/\¬(M' b p\/Oth b p)/\xa v=true/\VRel w' (λb o=>M' b o\/Oth b o) x v:=λp x hp=>by
        rw[Fet]at hp
        by_cases hlt:p<rows.length*ie.size
        · rw[Fam (by rw[Bq hk];exact hlt)]at hp
          obtain⟨h1,h2,h4,h3⟩:=hold p hlt
          exact⟨f p,by rw[hcellb p hlt];exact h1,λhh=>h2 (hh.imp (λh=>h.1) id),h4,(h3 x hp).keep hkeep⟩
        · rw[Fa1 (by rw[Bq hk];omega),Bq hk]at hp
          obtain⟨v,hv,hvr⟩:=hnr.getElem? hp
          have hpl:=(Fai.1 hp).1
          rw[Bq hk']at hpl
          have:=hcelln _ v (by simpa using hv)
          have e:rows.length*ie.size+(p-rows.length*ie.size)=p:=by omega
          rw[e]at this
          refine⟨v,this,λhh=>?_,hone v (Fay hv),hvr.keep hkeep⟩
          rcases hh with hh|hh
          · exact hh.2 ⟨rfl,by omega⟩
          · exact sim.sto.dis b p hh (hMtop p (by omega))
      have hlt2:∀(i:Nat) (row:List AV) (j:Nat) (x:AV),(rows++rows')[i]?=some row->row[j]?=some x->(rows++rows').flatten[i*ie.size+j]?=some x:=λi row j x h1 h2=>Iv hkk h1 h2
      refine VRel.lst _ _ b 0 sCap ie.size (λj=>(w'.cell? ⟨b,j,none⟩).getD undef) (by rw[Fad];exact hstay) (λi row hr=>hkk row (Fay hr)) (λt ht=>?_) (λi row j x h1 h2=>?_) (λi row j x h1 h2=>?_) (λi row j x h1 h2=>?_)
      · cases ht;exact⟨rfl,rfl,by simp[hne],c',e0,fr0,hblk',by rw[hs'];exact hcsz⟩
      · obtain⟨v,h3,h4,h6,h5⟩:=hget _ x (hlt2 i row j x h1 h2)
        simp only[Fbe,h3,Ffc]
        exact⟨Tv,h4⟩
      · obtain⟨v,h3,h4,h6,h5⟩:=hget _ x (hlt2 i row j x h1 h2)
        simp only[h3,Ffc]
        exact h6
      · obtain⟨v,h3,h4,h6,h5⟩:=hget _ x (hlt2 i row j x h1 h2)
        simp only[h3,Ffc]
        exact h5
    · have hold2:(Builtin.firstCells ie.size rows.length (.slice (some ⟨b,0,none⟩) rows.length sCap)).run P w.drew=.ok (((List.range' 0 (rows.length*ie.size)).map f).toArray) w.drew:=by
        have:=Ic (P:=P) ⟨b,0,none⟩ w.drew f (rows.length*ie.size) 0 #[] (λp _ hp=>by
          rw[wd,Fbe]
          exact(hold p (by omega)).1)
        simp only[Builtin.firstCells,loadCells]
        simpa using this
      obtain⟨newCap,rest,h1,_,h2,h3⟩:=I8 ty h hlen (hnew w.drew rfl) hold2 (by omega) (by simpa using hroom)
      have htokless:SimB n Oth β A (st.sT b none) M a w:=
        { sim with
          sep:=λk b' hk hb=>sim.sep k b' hk (hb.imp id λh=>by
            by_cases he:b'=b
            · subst he;rw[htb];simp
            · simpa [Store.sT,qc he]using h)
          sto:=sim.sto.weaken ⟨λ_ _ h=>h,λb' x hx=>by
            by_cases he:b'=b
            · subst he;simp[Store.sT]at hx
            · simpa [Store.sT,qc he]using hx⟩}
      obtain⟨st',M',ho,hsim,hchg,hv⟩:=htokless.appendNew (cs:=((List.range' 0 (rows.length*ie.size)).map f).toArray++new++rest) (e:=e) (cap:=newCap) hkk (by simp[hne]) (λi x hx=>by
        rw[Fet]at hx
        obtain⟨v,hv,hvr⟩:=(holdR.append hnr).getElem? hx
        refine⟨v,getElem?_append3 (by simpa using hv),hvr,?_⟩
        rcases Fan.1 (Fay hv)with hm|hm
        · simp only[Fae]at hm
          obtain⟨p,hp,rfl⟩:=hm
          exact(hold p (by simpa using hp)).2.2.1
        · exact hone v hm) (by rw[Fad];exact h1) (by
          simp only[Array.size_append,hns,h2,List.size_toArray,Fa4,List.length_range']
          have:=Fa5 ie.size h1
          rw[Nat.sub_mul,<-Fb0]
          omega)
      rw[Fad]at hv
      exact⟨_,_,_,st',M',h3,ho,hsim,hchg,hv⟩
end
section
variable {P:Program} {c:Cfg} {K:Fr->Store->Prop} {A:Fr} {st:Store} {Oth M:Nat->Nat->Prop}
theorem Gj{w:World}{b:Nat}{cs:Array Value}{e:TypeId}{fr:Nat×Nat}(h:w.heap[b]?=some (.cells cs e fr))(hf:De fr cs.size):
    ∃fr',De fr' cs.size/\(w.freeze ⟨b,cs.size,none⟩ 1).heap[b]?=some (.cells cs e fr')/\∀i,i≠b->(w.freeze ⟨b,cs.size,none⟩ 1).heap[i]?=w.heap[i]?:=by
  obtain⟨lo,hi⟩:=fr
  refine⟨if lo==hi then(cs.size,cs.size+1)else(min lo cs.size,max hi (cs.size+1)),?_,?_,λi hi=>?_⟩
  · unfold De at hf⊢
    split
    · right;simp
    · rename_i hne
      simp at hne hf⊢
      omega
  · unfold World.freeze
    rw[if_neg (by decide)]
    simp only[Fcw,if_true,h,Feq]
  · unfold World.freeze
    rw[if_neg (by decide)]
    simp only[Fcw]
    rw[if_neg (Ne.symm hi)]
theorem tn{w:World}{b:Nat}{cs:Array Value}{e:TypeId}{fr:Nat×Nat}(h:w.heap[b]?=some (.cells cs e fr))(hf:De fr cs.size)(b' o:Nat):
    (w.freeze ⟨b,cs.size,none⟩ 1).cell? ⟨b',o,none⟩=w.cell? ⟨b',o,none⟩:=by
  obtain⟨fr',_,h2,h3⟩:=Gj h hf
  by_cases hb:b'=b
  · subst hb
    simp only[World.cell?,h2,h]
  · simp only[World.cell?,h3 b' hb]
theorem bk(w:World)(a:Addr)(n:Nat):(w.freeze a n).heap.size=w.heap.size:=by
  unfold World.freeze
  split
  · rfl
  · simp
theorem Lf{w:World}{b:Nat}{cs:Array Value}{e:TypeId}{fr:Nat×Nat}(h:w.heap[b]?=some (.cells cs e fr))(hf:De fr cs.size)(T:Nat->Nat->Prop):
    Keeps w T (w.freeze ⟨b,cs.size,none⟩ 1) T where
  cell b' o x hc _:=by rw[tn h hf];exact hc
  out _ _ _ _ hT:=hT
  shp b' c' e' f' hw:=by
    obtain⟨fr',_,h2,h3⟩:=Gj h hf
    by_cases hb:b'=b
    · subst hb
      rw[h]at hw
      cases hw
      exact⟨_,_,h2,rfl⟩
    · exact⟨_,_,by rw[h3 b' hb];exact hw,rfl⟩
theorem tj{w:World}{b:Nat}{cs:Array Value}{e:TypeId}{fr:Nat×Nat}(h:w.heap[b]?=some (.cells cs e fr))(hf:De fr cs.size){T:Nat->Nat->Prop}{l:List AV}{b':Nat}(hb:b'≠b)(hr:CellsRel w T l b'):
    CellsRel (w.freeze ⟨b,cs.size,none⟩ 1) T l b':=by
  obtain⟨fr',h1,h2,h3⟩:=Gj h hf
  obtain⟨c',e',f',h4,h5,h6,h7⟩:=hr
  exact⟨c',e',f',by rw[h3 b' hb];exact h4,h5,h6,λi x y hx hy=>(h7 i x y hx hy).keep (Lf h hf T)⟩
theorem SimB.freeze{n:SN}{β:Nat->Nat}{a:Act}{w:World}(s:SimB n Oth β A st M a w){b:Nat}{cs:Array Value}{e:TypeId}{fr:Nat×Nat}(h:w.heap[b]?=some (.cells cs e fr))(hf:De fr cs.size)(hno:∃o,¬M b o):
    SimB n Oth β A st M a (w.freeze ⟨b,cs.size,none⟩ 1) where
  tsz:=s.tsz
  dfr:=s.dfr.step λD hD _ h2=>by
    obtain⟨fr',_,_,h6⟩:=Gj h hf
    exact⟨h6 D (λe=>by subst e;rw[h]at hD;cases hD),λo=>(h2 o).1⟩
  tm i:=(s.tm i).keep (Lf h hf _)
  bx k l hk:=⟨tj h hf (λe=>by obtain⟨o,ho⟩:=hno;exact ho (e▸(s.bx k l hk).2 o)) (s.bx k l hk).1,(s.bx k l hk).2⟩
  inj:=s.inj
  sep:=s.sep
  sto:=
    { obj:=λb' x hx=>by
        refine⟨?_,(s.sto.obj b' x hx).2⟩
        have hr:=(s.sto.obj b' x hx).1
        cases x with
        |cells l=>exact tj h hf (λe=>by obtain⟨o,ho⟩:=hno;exact ho (e▸(s.sto.obj b' _ hx).2 o)) hr
        | ghost o gh=>
          obtain⟨⟨h1,hc⟩,h2⟩:=hr
          have hb:b'≠b:=λhh=>by subst hh;rw[h]at h1;cases h1;cases hc
          obtain⟨fr',_,_,h6⟩:=Gj h hf
          exact⟨⟨by rw[h6 b' hb];exact h1,hc⟩,λp hp=>(h2 p hp).keep (Lf h hf _)⟩
        | iter m since seen last=>
          have h1:w.heap[b']?=_:=hr
          have hb:b'≠b:=λhh=>by subst hh;rw[h]at h1;cases h1
          obtain⟨fr',_,_,h6⟩:=Gj h hf
          show _=_
          rw[h6 b' hb];exact h1
        | map es bs clock=>
          obtain⟨ms,h1,h2,h3,h4⟩:=hr
          have hb:b'≠b:=λhh=>by subst hh;rw[h]at h1;cases h1
          obtain⟨fr',_,_,h6⟩:=Gj h hf
          exact⟨ms,by rw[h6 b' hb];exact h1,h2,λi x y hx hy=>⟨(h3 i x y hx hy).1.keep (Lf h hf _),(h3 i x y hx hy).2.keep (Lf h hf _)⟩,h4⟩
      tok:=λb' top ht=>by
        obtain⟨c',e',f',h1,h2,h3⟩:=s.sto.tok b' top ht
        obtain⟨fr',h4,h5,h6⟩:=Gj h hf
        by_cases hb:b'=b
        · subst hb
          rw[h]at h1
          cases h1
          exact⟨_,_,_,h5,h4,h3⟩
        · exact⟨c',e',f',by rw[h6 b' hb];exact h1,h2,h3⟩
      mlt:=λb' o hm=>by rw[bk];exact s.sto.mlt b' o hm
      olt:=λb' o hm=>by rw[bk];exact s.sto.olt b' o hm
      dis:=s.sto.dis}
theorem yd8{w:World}{b:Nat}{cs:Array Value}{e:TypeId}{fr:Nat×Nat}(h:w.heap[b]?=some (.cells cs e fr))(hf:De fr cs.size)(hM:∃o,M b o):Chg M w M (w.freeze ⟨b,cs.size,none⟩ 1) where
  size:=by rw[bk];exact Faj _
  keep b' o _ _:=tn h hf b' o
  blk b' _ hno:=by
    obtain⟨o,ho⟩:=hM
    obtain⟨fr',h4,h5,h6⟩:=Gj h hf
    exact h6 b' λhh=>by subst hh;exact hno o ho
  shp b' c' e' f' hw:=(Lf h hf (λ_ _=>False)).shp b' c' e' f' hw
  sub _ _ h _:=h
  tape:=by unfold World.freeze;split<;>rfl
  os:=by unfold World.freeze;split<;>rfl
  output:=by unfold World.freeze;split<;>rfl
theorem yfm{o:Oper}{s t:TypeId}{x:Operand}(ho:o.op=.convert s t x)(hI:y9 P c.I)(h:Rs P c o s t x K A st):AOp P c.N o K A st:=by
  unfold Rs at h
  split at h
  · rename_i k rows b hx
    cases hb:Nat.beq s t with
    |false=>rw[hb]at h;exact h.elim
    |true=>
    rw[hb]at h
    simp only[cond_true]at h
    obtain rfl:=(xw _ _).1 hb
    obtain⟨i,hi,h⟩:=zq h
    split at h
    · rename_i e hty
      obtain⟨ie,hie,h⟩:=zq h
      cases hu8:(W5 ie.ty&&Nat.beq k 1)with
      |false=>rw[hu8]at h;exact h.elim
      |true=>
      rw[hu8]at h
      simp only[cond_true]at h
      obtain⟨top,htop,h⟩:=zq h
      obtain⟨hu8,hk1⟩:=Fda.1 hu8
      have hk1:=(xw _ _).1 hk1
      have hiety:ie.ty=.int .u8:=by
        unfold W5 at hu8
        split at hu8
        · assumption
        · cases hu8
      rintro Oth M a w ⟨β,sim⟩
      obtain⟨cs,e',fr,h1,h2,h3,h4⟩:=sim.sto.tok b top htop
      have hv:∃n cap,a.eval x=.slice (some ⟨b,0,none⟩) n cap/\∃o,¬M b o:=by
        have hr:=qk sim.env hx
        generalize a.eval x=v at hr
        cases hr with
        | lst _ _ b' off cap _ f hcap hk htok hc h0 hx'=>
          obtain⟨rfl,rfl,hne,_⟩:=htok b rfl
          refine⟨_,_,rfl,?_⟩
          cases rows with
          |nil=>exact absurd rfl hne
          | cons r rs=>
            have hr1:=hk 0 r rfl
            cases r with
            |nil=>simp at hr1;omega
            |cons y ys=>exact⟨_,λhm=>(hc 0 _ 0 y rfl rfl).2 (.inl hm)⟩
      obtain⟨n,cap,hv,hnoM⟩:=hv
      have hsh:w.shape? b=some (e',cs.size):=by simp[World.shape?,h1]
      have hrun:(execOp a.eval o).run P w=.ok (.value (a.eval x)) (w.freeze ⟨b,cs.size,none⟩ 1):=by
        simp[execOp,ho,hv,convert,ym (jr (hI _ _ hi) hty),ym (Kj (hI _ _ hie) hiety),markStringish,hsh]
      have sim':=sim.freeze h1 h2 hnoM
      unfold Oper.wp
      rw[hrun,Oper.upon_value]
      have hvr:LRel (w.freeze ⟨b,cs.size,none⟩ 1) (λb o=>M b o\/Oth b o) β (.av (.lst k rows (some b))) (a.eval x):=by
        have:=sim'.ev x
        rw[hx]at this
        exact this
      have hchg:Chg M w M (w.freeze ⟨b,cs.size,none⟩ 1):=yd8 h1 h2 ⟨top,h4 top (Faj _)⟩
      unfold qu at h
      cases hd:o.dst with
      |none=>rw[hd]at h;exact⟨A,st,M,h,⟨β,sim'⟩,hchg⟩
      | some d=>
        rw[hd]at h
        obtain⟨hlt,h⟩:=Ac h
        exact⟨_,st,M,h,⟨β,sim'.put hlt hvr⟩,hchg⟩
    · exact h.elim
  · exact R9 hI h
  · exact R9 hI h
  · exact N7 hI (by rw[ho];exact h)
end
section
variable {P:Program} {c:Cfg} {K:Fr->Store->Prop} {A:Fr} {st:Store}
theorem yfq{o:Oper}{cl:Call}(ho:o.op=.call cl)(hcl:cl.callee=.builtin .append)(hI:y9 P c.I)
    (h:optK cl.argTypes[0]? λt=>optK (c.I t) λi=>optK cl.args[0]? λs=>optK cl.args[1]? λx=>match i.ty with
      |.slice e=>bif (cl.argTypes[1]?.bind c.I).any Me then
          appendK P c st e (A.ev s) (A.ev x) λr st'=>qu A c.n o.dst (.av r) λA'=>K A' st' else vcX P c o K A st
      |_=>False):AOp P c.N o K A st:=by
  obtain⟨t,ht,h⟩:=zq h
  obtain⟨i,hi,h⟩:=zq h
  obtain⟨s,hs,h⟩:=zq h
  obtain⟨x,hx,h⟩:=zq h
  split at h
  · rename_i e hty
    cases hb:(cl.argTypes[1]?.bind c.I).any Me with
    |false=>rw[hb]at h;exact R9 hI h
    |true=>
    rw[hb]at h
    simp only[cond_true]at h
    replace h:=h.out
    rintro Oth M a w ⟨β,sim⟩
    have ht1:∃t1 e1,cl.argTypes[1]?=some t1/\P.underlying t1=some (.slice e1):=by
      cases h1:cl.argTypes[1]? with
      |none=>rw[h1]at hb;simp at hb
      | some t1=>
        rw[h1]at hb
        simp only[Option.bind_some]at hb
        cases h2:c.I t1 with
        |none=>rw[h2]at hb;simp at hb
        | some j=>
          rw[h2]at hb
          simp only[Option.any_some]at hb
          unfold Me at hb
          split at hb
          · rename_i e1 h3;exact⟨t1,e1,rfl,jr (hI _ _ h2) h3⟩
          · cases hb
    have hrun:(execOp a.eval o).run P w=((Builtin.append_ cl.argTypes o.type (cl.args.map a.eval)).run P w).andThen λv w'=>.ok (.value v) w':=by
      simp[execOp,ho,resolve,hcl,invoke,builtin]
    have fin:∀v w',(∃r st' M',(qu A c.n o.dst (.av r) λA'=>K A' st')/\VRel w' (λb o=>M' b o\/Oth b o) r v/\SimB c.N Oth β A st' M' a w'/\Chg M w M' w')->
        ∃A' st' M',K A' st'/\Sim c.N Oth A' st' M' (a.put o.dst v) w'/\Chg M w M' w':=by
      rintro v w' ⟨r,st',M',hk,hv,hs,hchg⟩
      unfold qu at hk
      cases hd:o.dst with
      |none=>rw[hd]at hk;exact⟨A,st',M',hk,⟨β,hs⟩,hchg⟩
      | some d=>
        rw[hd]at hk
        obtain⟨hlt,hk⟩:=Ac hk
        exact⟨_,st',M',hk,⟨β,hs.put hlt hv⟩,hchg⟩
    have h1:(cl.args.map a.eval)[1]?=some (a.eval x):=by rw[Fcx,hx];rfl
    unfold Oper.wp
    rw[hrun]
    rcases h with h|⟨s',x',hes,hex,h⟩
    rotate_left
    · have hvs:=qk sim.env hes
      have hvx:=qk sim.env hex
      have h0:(cl.args.map a.eval)[0]?=some (a.eval s):=by rw[Fcx,hs];rfl
      obtain⟨ie,hie⟩:=h.has
      obtain⟨v,w',hr,hp⟩:=h.out ie hie _ _ w _ _ _ o.type _ t sim.inner (hvs.mono Hf) (hvx.mono Hf) ht ht1 (jr (hI _ _ hi) hty) (hI _ _ hie) h0 h1
      rw[hr]
      exact fin v w' (sim.post v w' hp)
    unfold d9 at h
    obtain⟨ie,hie,h⟩:=zq h
    split at h
    · rename_i hev
      obtain⟨rows,hrows,hroom,h⟩:=zq h
      have hsv:a.eval s=.slice none 0 0:=VRel.eq_s (qk sim.env hev)
      have h0:(cl.args.map a.eval)[0]?=some (.slice none 0 0):=by rw[Fcx,hs,<-hsv];rfl
      obtain⟨v,w',r,st',M',hr,hown,hsim,hchg,hv⟩:=(dz (c:=c) sim o.type ⟨ht,ht1,jr (hI _ _ hi) hty,hI _ _ hie,h0,h1⟩ (sim.ev x) hrows).1 ⟨rfl,rfl,λx h=>by cases h⟩ hroom
      rw[hr]
      exact fin v w' ⟨r,st',M',h r st' hown,hv,hsim,hchg⟩
    · rename_i hev
      obtain⟨rows,hrows,hroom,h⟩:=zq h
      have hsv:∃ad,a.eval s=.slice ad 0 0/\∀x,ad=some x->x.spot=none:=by
        have:=qk sim.env hev
        generalize a.eval s=v at this
        cases this with
        |emp ad h=>exact⟨ad,rfl,h⟩
      obtain⟨ad,hsv,hspot⟩:=hsv
      have h0:(cl.args.map a.eval)[0]?=some (.slice ad 0 0):=by rw[Fcx,hs,<-hsv];rfl
      obtain⟨v,w',r,st',M',hr,hown,hsim,hchg,hv⟩:=(dz (c:=c) sim o.type ⟨ht,ht1,jr (hI _ _ hi) hty,hI _ _ hie,h0,h1⟩ (sim.ev x) hrows).1 ⟨rfl,rfl,hspot⟩ hroom
      rw[hr]
      exact fin v w' ⟨r,st',M',h r st' hown,hv,hsim,hchg⟩
    · rename_i k rows b hev
      cases hkb:(Nat.beq k ie.size&&Nat.blt 0 ie.size)with
      |false=>rw[hkb]at h;exact h.elim
      |true=>
      rw[hkb]at h
      simp only[cond_true]at h
      rw[Fav]at hkb
      have hpos:0<ie.size:=Fbh hkb.2
      obtain rfl:=(xw _ _).1 hkb.1
      obtain⟨rows',hrows,htok,hroom,h⟩:=zq h
      have hvr:=qk sim.env hev
      obtain⟨base,sLen,sCap,hsv⟩:∃base sLen sCap,a.eval s=.slice base sLen sCap:=by
        generalize a.eval s=v at hvr
        cases hvr<;>exact⟨_,_,_,rfl⟩
      rw[hsv]at hvr
      have h0:(cl.args.map a.eval)[0]?=some (.slice base sLen sCap):=by rw[Fcx,hs,<-hsv];rfl
      obtain⟨v,w',r,st',M',hr,hown,hsim,hchg,hv⟩:=(dz (c:=c) sim o.type ⟨ht,ht1,jr (hI _ _ hi) hty,hI _ _ hie,h0,h1⟩ (sim.ev x) hrows).2 rows b hpos hvr htok hroom
      rw[hr]
      exact fin v w' ⟨r,st',M',h r st' hown,hv,hsim,hchg⟩
    · exact h.elim
  · exact h.elim
theorem nw{o:Oper}{x:LV}{v:Value}{a:Act}{w:World}{Oth M:Nat->Nat->Prop}{β:Nat->Nat}(sim:SimB c.N Oth β A st M a w)(hv:LRel w (λb o=>M b o\/Oth b o) β x v)
    (h:qu A c.n o.dst x λA'=>K A' st):∃A' st' M',K A' st'/\Sim c.N Oth A' st' M' (a.put o.dst v) w/\Chg M w M' w:=by
  unfold qu at h
  cases hd:o.dst with
  |none=>rw[hd]at h;exact⟨A,st,M,h,⟨β,sim⟩,Chg.refl _ _⟩
  | some d=>
    rw[hd]at h
    obtain⟨hlt,h⟩:=Ac h
    exact⟨_,st,M,h,⟨β,sim.put hlt hv⟩,Chg.refl _ _⟩
set_option maxHeartbeats 1000000 in
theorem zs1(w:World){t e:TypeId}(hu:P.underlying t=some (.slice e))(ad:Option Addr)(n cap d:Nat):(Op.equalIn (d+1) t (.slice ad n cap) (.slice none 0 0)).run P w=.ok ad.isNone w:=by
  cases ad<;>simp[Op.equalIn,ym hu]
theorem mg(w:World){t e:TypeId}(hu:P.underlying t=some (.slice e))(ad:Option Addr)(n cap:Nat):
    (binOp .eql t (.slice ad n cap) (.slice none 0 0)).run P w=.ok (.bool ad.isNone) w/\(binOp .neq t (.slice ad n cap) (.slice none 0 0)).run P w=.ok (.bool !ad.isNone) w:=by
  have h:=zs1 w hu ad n cap 9999
  constructor<;>simp only[binOp,Op.equal,Op.maxDepth,Sem.run_bind,h,Result.andThen_ok,Sem.run_pure]
theorem yfp{o:Oper}{op:BinOp}{t yt:TypeId}{x y:Operand}(ho:o.op=.binOp op t x y yt)(hI:y9 P c.I)
    (h:R1 c o op t x y yt K A st):AOp P c.N o K A st:=by
  unfold R1 at h
  split at h
  · rename_i k rows tok hx hy
    obtain⟨i,hi,h⟩:=zq h
    rintro Oth M a w ⟨β,sim⟩
    have hyv:a.eval y=.slice none 0 0:=VRel.eq_s (qk sim.env hy)
    have hxv:∃ad n cap,a.eval x=.slice ad n cap/\(ad.isNone=true->rows=[]):=by
      rcases L6 (qk sim.env hx)with⟨_,cap,hv,h2,_⟩|⟨b,off,cap,hv,_⟩
      · exact⟨_,_,_,hv,λ_=>h2⟩
      · exact⟨_,_,_,hv,λh=>by simp at h⟩
    obtain⟨ad,n,cap,hxv,hnil⟩:=hxv
    cases hty:i.ty with
    | slice e=>
      rw[hty]at h
      have hu:=jr (hI _ _ hi) hty
      cases op with
      | eql=>
        have hrun:(execOp a.eval o).run P w=.ok (.value (.bool ad.isNone)) w:=by
          simp[execOp,ho,hxv,hyv,eqGuard,(mg w hu ad n cap).1]
        unfold Oper.wp
        rw[hrun,Oper.upon_value]
        exact nw sim (x:=jo ad.isNone) (VRel.s _) (h _ hnil)
      | neq=>
        have hrun:(execOp a.eval o).run P w=.ok (.value (.bool !ad.isNone)) w:=by
          simp[execOp,ho,hxv,hyv,eqGuard,(mg w hu ad n cap).2]
        unfold Oper.wp
        rw[hrun,Oper.upon_value]
        exact nw sim (x:=jo !ad.isNone) (VRel.s _) (h _ hnil)
      |_=>exact h.elim
    |_=>rw[hty]at h;exact h.elim
  · exact N7 hI (by rw[ho];exact h)
theorem zbr(hI:y9 P c.I){o:Oper}(h:Cj P c o K A st):AOp P c.N o K A st:=by
  unfold Cj at h
  cases hx:isX o.op with
  |true=>rw[hx]at h;exact R9 hI h
  |false=>
  rw[hx]at h
  replace h:D3 P c o K A st:=h
  unfold D3 at h
  cases ho:o.op with
  |alloc t=>simp only[ho,Fm]at h;exact yfr ho hI h
  |box t x=>simp only[ho]at h;exact yfo ho hI h
  |buildSlice t n ps=>simp only[ho]at h;exact zbs ho hI h
  | store t p x=>
    simp only[ho]at h
    cases hd:o.dst with
    |some d=>rw[hd]at h;exact h.elim
    |none=>rw[hd]at h;exact yfj ho hd hI h
  |binOp op t x y yt=>simp only[ho]at h;exact yfp ho hI h
  |convert s t x=>simp only[ho]at h;exact yfm ho hI h
  | call cl=>
    simp only[ho]at h
    cases hcl:cl.callee with
    |value f=>simp only[hcl]at h;exact yfn ho hcl h
    |invoke r m=>simp only[hcl]at h;exact yfl ho hcl h
    | builtin b=>
      cases b with
      |append=>simp only[hcl]at h;exact yfq ho hcl hI h
      |_=>simp only[hcl]at h;exact N7 hI (by rw[ho];exact h)
  |_=>simp only[ho]at h;exact N7 hI (by rw[ho];exact h)
theorem Cfg.noDepth(c:Cfg):c.F.depth.isSome=true->1<=0:=λh=>by cases h
theorem za1{c:Cfg}{f:FuncId}{args:Array Value}{w:World}{R:Ending->World->Prop}(h:Calls P f args w R):CallsIn c.F 0 P f args w R:=
  (callsIn_wide (n:=0)).2 h
theorem ztk{c:Cfg}{row:String}{args:Array Value}{w:World}{R:Value->World->Prop}(h:Rows P row args w R):RowsIn c.F 0 P row args w R:=
  λx cs _=>let⟨v,w',r,s⟩:=h x cs;⟨v,w',r,stepsIn_wide.2 s⟩
theorem Oper.wpIn_F{o:Oper}(hd:∀cl,o.op≠.defer cl){a:Act}{w:World}{K:Act->World->Prop}{Q:Exit->Act->World->Prop}(h:o.wp P a w K Q):o.wpIn c.F 0 P a w K Q:=by
  refine⟨λ_ _=>Tv,?_⟩
  rw[Oper.semAt_eq _ _ _ hd]
  unfold Oper.wp at h
  generalize(execOp a.eval o).run P w=r at*
  cases r with
  | ok x w'=>
    cases x<;>simp only[Oper.upon,Oper.uponIn]at h⊢<;>
      first
        |exact h
        |exact⟨c.noDepth,za1 h⟩
        |exact⟨c.noDepth,ztk h⟩
        |exact h.elim
  |halt x w'=>cases x<;>simp only[Oper.upon,Oper.uponIn]at h⊢<;>exact h
theorem zxb{o:Oper}(h:Cj P c o K A st)(cl:Call):o.op≠.defer cl:=by
  intro e
  unfold Cj at h
  rw[e]at h
  have h:D3 P c o K A st:=h
  unfold D3 at h
  simp only[e]at h
  obtain⟨d,_,h⟩:=zq h
  obtain⟨_,h⟩:=Ac h
  exact h.elim
theorem zb3{o:Oper}{l:Nat}(h:Se A o.op=some l):∃cl f fv cap,o.op=.call cl/\cl.callee=.value f/\A.ev f=.av (.s (.func (.yield l) fv cap))/\fv=#[]/\cap=#[]:=by
  unfold Se at h
  split at h
  · rename_i cl hop
    split at h
    · rename_i f hcl
      split at h
      · rename_i l' fv cap hev
        cases hb:(Nat.beq fv.size 0&&Nat.beq cap.size 0)with
        |false=>rw[hb]at h;cases h
        | true=>
          rw[hb]at h
          cases h
          rw[Fav]at hb
          exact⟨cl,f,fv,cap,hop,hcl,hev,Array.size_eq_zero_iff.1 ((xw _ _).1 hb.1),Array.size_eq_zero_iff.1 ((xw _ _).1 hb.2)⟩
      · cases h
    · cases h
  · cases h
theorem ztm{l:Nat}{f:FuncId}{tmps:Array Value}{assign body:Code}{w:World}{R:Ending->World->Prop}(h:RoundIn Fence.wide 0 P l f tmps assign body w R):RoundIn c.F 0 P l f tmps assign body w R:=h
theorem yfs(hI:y9 P c.I){o:Oper}(h:Kf P c o K A st):ygc P c o K A st:=by
  unfold Kf at h
  split at h
  rotate_left
  · exact λOth M a w sim=>Oper.wpIn_F (zxb h) (zbr hI h Oth M a w sim)
  · rename_i l hl
    obtain⟨cl,f,fv,cap,ho,hcl,hf,rfl,rfl⟩:=zb3 hl
    rintro Oth M a w ⟨β,sim⟩
    obtain⟨vs,hvs,h⟩:=zq h
    unfold el at hvs
    rw[ho]at hvs
    have hfv:a.eval f=.func (.yield l) #[] #[]:=VRel.eq_s (qk sim.env hf)
    obtain⟨hm1,hm2⟩:=M7 hvs
    have hr1:Reads w (λb o=>M b o\/Oth b o) vs (cl.args.map a.eval).toList:=by
      refine⟨by simp[hm1],λi x y hx hy=>?_⟩
      obtain⟨z,hz,hzz⟩:=hm2 i x hx
      have hz':cl.args[i]?=some z:=by simpa using hz
      rw[Fc3,Faq,hz]at hy
      simp at hy
      subst hy
      exact qk sim.env (L9 hzz)
    have hrun:(execOp a.eval o).run P w=(Instr.yield l (cl.args.map a.eval)).run P w:=by
      simp[execOp,ho,resolve,hcl,hfv,Deferred.ofValue,invoke]
    obtain⟨fn,tmps,assign,body,hy,hround⟩:=h.out _ _ w (cl.args.map a.eval) sim.inner ⟨hr1.1,λi x y hx hy=>(hr1.2 i x y hx hy).mono Hf⟩
    refine⟨λ_ _=>Tv,?_⟩
    rw[Oper.semAt_eq _ _ _ (by rw[ho];intro _ e;cases e),hrun,hy,Oper.uponIn_round]
    refine⟨c.noDepth,ztm (hround.mono ?_)⟩
    rintro e w' ⟨v,rfl,hp⟩
    obtain⟨r,st',M',hk,hv,hs,hchg⟩:=sim.post v w' hp
    show∃A' st' M',_
    unfold qu at hk
    cases hd:o.dst with
    |none=>rw[hd]at hk;exact⟨A,st',M',hk,⟨β,hs⟩,hchg⟩
    | some d=>
      rw[hd]at hk
      obtain⟨hlt,hk⟩:=Ac hk
      exact⟨_,st',M',hk,⟨β,hs.put hlt hv⟩,hchg⟩
end
def Mf(c:Cfg)(o:Oper)(A:Fr)(K:Fr->Prop):Prop:=qu A c.n o.dst .und K
def Bd(P:Program)(c:Cfg)(ops:Array Oper)(K:Fr->Store->Prop):List Oper->Fr->Store->Prop
  |[],A,st=>K A st
  | o::rest,A,st=>
    match o.guard with
    |none=>Kf P c o (Bd P c ops K rest) A st
    | some (j,want)=>optK ((ops[j]?).bind (·.dst)) λt=>
      match A.t t with
      |.av (.s (.bool b))=>Bs b
          (bif want then Kf P c o (Bd P c ops K rest) (A.put t (jo true)) st else Mf c o (A.put t (jo true)) λA'=>Bd P c ops K rest A' st)
          (bif want then Mf c o (A.put t (jo false)) λA'=>Bd P c ops K rest A' st else Kf P c o (Bd P c ops K rest) (A.put t (jo false)) st)
      |.und=>Mf c o A λA'=>Bd P c ops K rest A' st
      |_=>False
structure AWp(P:Program)(c:Cfg)(code:Code)(Q:Exit->Fr->Store->Prop)(A:Fr)(st:Store):Prop where
  out:∀Oth M a w,Sim c.N Oth A st M a w->code.wpIn c.F 0 P (λe a' w'=>∃A' st' M',Q e A' st'/\Sim c.N Oth A' st' M' a' w'/\Chg M w M' w') a w
structure ADraw(P:Program)(c:Cfg)(ops:Array Oper)(K:Fr->Store->Prop)(A:Fr)(st:Store):Prop where
  out:∀id,AWp P c (.region id ops true) (λe A' st'=>match e with|.normal=>K A' st'|_=>False) A st
def Oq(next:Fr->Store->Prop)(Q:Exit->Fr->Store->Prop):Exit->Fr->Store->Prop
  |.normal=>next
  |e=>Q e
def P3(id:Nat)(Q:Exit->Fr->Store->Prop):Exit->Fr->Store->Prop
  |.exit id'=>bif Nat.beq id' id then Q .normal else Q (.exit id')
  |e=>Q e
def zxc(Q:Exit->Fr->Store->Prop):Exit->Fr->Store->Prop
  |.goto _=>λ_ _=>False
  |e=>Q e
def vc(P:Program)(c:Cfg):Code->(Exit->Fr->Store->Prop)->Fr->Store->Prop
  |.skip,Q,A,st=>Q .normal A st
  | .region _ ops draw,Q,A,st=>match draw with
    |false=>Bd P c ops (Q .normal) ops.toList A st
    |true=>ADraw P c ops (Q .normal) A st
  |.seq a b,Q,A,st=>vc P c a (Oq (vc P c b Q) Q) A st
  | .cond x a b,Q,A,st=>match A.ev x with
    |.av (.s (.bool t))=>Bs t (vc P c a Q A st) (vc P c b Q A st)
    |_=>False
  |.block id b,Q,A,st=>vc P c b (P3 id Q) A st
  |.loop b,Q,A,st=>AWp P c (.loop b) Q A st
  |.exit id,Q,A,st=>Q (.exit id) A st
  |.scope b,Q,A,st=>vc P c b (zxc Q) A st
  |.label _,Q,A,st=>Q .normal A st
  |.ret,Q,A,st=>Q .ret A st
  |_,_,_,_=>False
section
variable {P:Program} {c:Cfg}
theorem Fr.put_self{A:Fr}{d:Nat}{x:LV}(h:A.t d=x):A.put d x=A:=by
  unfold Fr.put
  congr
  funext i
  by_cases hi:i=d
  · subst hi;simp[h]
  · simp[qc hi]
theorem td{ops:Array Oper}{tmps:Array Value}{j t:Nat}{b:Bool}(hd:(ops[j]?).bind (·.dst)=some t)(h:tmps.getD t undef=.bool b):yielded ops tmps j=some b:=by
  unfold yielded
  rw[hd]
  simp only[Option.bind_some]
  rw[Fau]at h
  cases ht:tmps[t]? with
  |none=>rw[ht]at h;simp[undef]at h
  |some v=>rw[ht]at h;simp at h;subst h;rfl
theorem tc{ops:Array Oper}{tmps:Array Value}{j t:Nat}(hd:(ops[j]?).bind (·.dst)=some t)(h:tmps.getD t undef=undef):yielded ops tmps j=none:=by
  unfold yielded
  rw[hd]
  simp only[Option.bind_some]
  rw[Fau]at h
  cases ht:tmps[t]? with
  |none=>rfl
  |some v=>rw[ht]at h;simp at h;subst h;rfl
theorem Oc{o:Oper}{a:Act}{w:World}{K K':Act->World->Prop}{Q Q':Exit->Act->World->Prop}(hk:∀a w,K a w->K' a w)(hn:∀e a w,e≠.normal->¬Q e a w)(h:o.wpIn c.F 0 P a w K Q):o.wpIn c.F 0 P a w K' Q':=by
  refine⟨h.1,?_⟩
  have h:=h.2
  generalize(o.semAt c.F.round a.eval).run P w=r at*
  have nq:∀(e:Exit) (a:Act) (w:World) {p:Prop},e≠.normal->Q e a w->p:=λe a w p hne h=>(hn e a w hne h).elim
  cases r with
  | ok x w'=>
    cases x<;>simp only[Oper.uponIn]at h⊢<;>
      first
        |exact hk _ _ h
        |exact⟨h.1,CallsIn.mono h.2 (λe w'' he=>by
            cases e with
            |returned v=>exact hk _ _ he
            |panicked ch=>exact nq _ _ _ (by simp) he
            |outgrown=>obtain⟨a2,w2,h2⟩:=he;exact nq _ _ _ (by simp) h2)⟩
        |exact⟨h.1,RowsIn.mono h.2 (λ_ _ he=>hk _ _ he)⟩
        |exact⟨h.1,RoundIn.mono h.2 (λe w'' he=>by
            cases e with
            |returned v=>exact hk _ _ he
            |panicked ch=>exact nq _ _ _ (by simp) he
            |outgrown=>obtain⟨a2,w2,h2⟩:=he;exact nq _ _ _ (by simp) h2)⟩
        |exact h
  |halt x w'=>cases x<;>simp only[Oper.uponIn]at h⊢<;>first|exact nq _ _ _ (by simp) h|exact h
theorem fy(hI:y9 P c.I)(ops:Array Oper)(K:Fr->Store->Prop):∀(l:List Oper) (A:Fr) (st:Store),Bd P c ops K l A st->
    ∀Oth M a w,Sim c.N Oth A st M a w->wpListIn c.F 0 P ops (λe a' w'=>e=.normal/\∃A' st' M',K A' st'/\Sim c.N Oth A' st' M' a' w'/\Chg M w M' w') l a w:=by
  intro l
  induction l with
  |nil=>intro A st h Oth M a w sim;exact⟨rfl,A,st,M,h,sim,Chg.refl M w⟩
  | cons o rest ih=>
    intro A st h Oth M a w sim
    have mono:∀(M':Nat->Nat->Prop) (w':World) (a':Act) (A':Fr) (st':Store),Bd P c ops K rest A' st'->Sim c.N Oth A' st' M' a' w'->Chg M w M' w'->
        wpListIn c.F 0 P ops (λe a' w'=>e=.normal/\∃A' st' M',K A' st'/\Sim c.N Oth A' st' M' a' w'/\Chg M w M' w') rest a' w':=by
      intro M' w' a' A' st' h1 h2 h3
      have:=ih A' st' h1 Oth M' a' w' h2
      clear h h1
      -- weaken the post
      have wm:∀(l:List Oper) (a w0) (Q Q':Exit->Act->World->Prop),(∀e a w,Q e a w->Q' e a w)->(∀e a w,e≠.normal->¬Q e a w)->wpListIn c.F 0 P ops Q l a w0->wpListIn c.F 0 P ops Q' l a w0:=by
        intro l
        induction l with
        |nil=>intro a w0 Q Q' hq _ h;exact hq _ _ _ h
        | cons o l ihl=>
          intro a w0 Q Q' hq hn h
          unfold wpListIn at h⊢
          split
          · rename_i hw
            rw[if_pos hw]at h
            exact Oc (λa w h=>ihl a w Q Q' hq hn h) (λe a w hne h=>hn e a w hne h) h
          · rename_i hw
            rw[if_neg hw]at h
            exact⟨λ_ _=>Tv,ihl _ _ _ _ hq hn h.2⟩
      refine wm rest a' w' _ _ ?_ ?_ this
      · rintro e a w ⟨he,A',st',M'',h4,h5,h6⟩
        exact⟨he,A',st',M'',h4,h5,h3.trans h6⟩
      · rintro e a w hne ⟨he,_⟩
        exact hne he
    -- an operation that is carried out
    have go:∀A1,Kf P c o (Bd P c ops K rest) A1 st->Sim c.N Oth A1 st M a w->Region.wanted o (yielded ops a.tmps)=true->
        wpListIn c.F 0 P ops (λe a' w'=>e=.normal/\∃A' st' M',K A' st'/\Sim c.N Oth A' st' M' a' w'/\Chg M w M' w') (o::rest) a w:=by
      intro A1 h1 sim1 hw
      unfold wpListIn
      rw[if_pos hw]
      exact Oc (λa' w' ⟨A',st',M',h3,h4,h5⟩=>mono M' w' a' A' st' h3 h4 h5) (λ_ _ _ _ h=>h) (yfs hI h1 Oth M a w sim1)
    have skip:∀A1,(Mf c o A1 λA'=>Bd P c ops K rest A' st)->Sim c.N Oth A1 st M a w->Region.wanted o (yielded ops a.tmps)=false->
        wpListIn c.F 0 P ops (λe a' w'=>e=.normal/\∃A' st' M',K A' st'/\Sim c.N Oth A' st' M' a' w'/\Chg M w M' w') (o::rest) a w:=by
      intro A1 h1 sim1 hw
      unfold wpListIn
      rw[if_neg (by rw[hw];simp)]
      refine⟨λ_ _=>Tv,?_⟩
      obtain⟨β,sim1⟩:=sim1
      unfold Mf qu at h1
      cases hd:o.dst with
      |none=>rw[hd]at h1;exact mono M w _ A1 st h1 ⟨β,sim1⟩ (Chg.refl _ _)
      | some d=>
        rw[hd]at h1
        obtain⟨hlt,h1⟩:=Ac h1
        exact mono M w _ _ st h1 ⟨β,sim1.put hlt (x:=.und) rfl⟩ (Chg.refl _ _)
    unfold Bd at h
    cases hg:o.guard with
    | none=>
      rw[hg]at h
      exact go A h sim (by simp[Region.wanted,hg])
    | some jw=>
      obtain⟨j,want⟩:=jw
      rw[hg]at h
      obtain⟨t,ht,h⟩:=zq h
      have hwant:∀y,yielded ops a.tmps j=y->Region.wanted o (yielded ops a.tmps)=(y==some want):=λy hy=>by simp[Region.wanted,hg,hy]
      split at h
      · rename_i b hb
        have htv:a.tmps.getD t undef=.bool b:=by
          obtain⟨β,s⟩:=sim
          have:=s.tm t
          rw[hb]at this
          exact VRel.eq_s this
        have hw:=hwant _ (td ht htv)
        cases b with
        | true=>
          rw[Fr.put_self (A:=A) (x:=jo true) hb]at h
          cases want with
          |true=>exact go A h sim (by rw[hw];rfl)
          |false=>exact skip A h sim (by rw[hw];rfl)
        | false=>
          rw[Fr.put_self (A:=A) (x:=jo false) hb]at h
          cases want with
          |true=>exact skip A h sim (by rw[hw];rfl)
          |false=>exact go A h sim (by rw[hw];rfl)
      · rename_i hb
        have htv:a.tmps.getD t undef=undef:=by
          obtain⟨β,s⟩:=sim
          have:=s.tm t
          rw[hb]at this
          exact this
        exact skip A h sim (by rw[hwant _ (tc ht htv)];rfl)
      · exact h.elim
end
end Go.V
