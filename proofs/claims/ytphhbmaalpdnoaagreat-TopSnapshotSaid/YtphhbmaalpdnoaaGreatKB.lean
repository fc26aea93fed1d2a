/- Ground of laws of throngtop: contracts and plain lemmas; no condition beyond the row's own. -/
import Derived.Laws.Append
import Derived.Tactics
import Derived.RangeFuncLeaves
import Derived.Test.YtphhbmaalpdnoaaGreatKA
set_option linter.unusedSimpArgs false
set_option linter.unusedVariables false
set_option linter.defProp false
namespace Go.V
section
variable {P:Program} {c:Cfg} {w:World} {Oth M:Nat->Nat->Prop} {st:Store}
def ku(M:Nat->Nat->Prop)(B:Nat):Nat->Nat->Prop:=λb o=>M b o\/b=B
theorem Ix(w:World)(o:Obj):(w.alloc o).heap[w.heap.size]?=some o:=by show(w.heap.push o)[_]?=_;simp
theorem Hl(w:World)(o:Obj)(M Oth:Nat->Nat->Prop):Keeps w (λb o=>M b o\/Oth b o) (w.alloc o) (λb o=>ku M w.heap.size b o\/Oth b o) where
  cell b o' c hc _:=by grind[F6,D6,Np]
  out b o' c hc hT hT':=by
    rcases hT' with(h|h)|h
    · grind
    · have:=Np hc;omega
    grind
  shp b c e fr hw:=⟨c,fr,by grind[D6],rfl⟩
theorem StoreOK.alloc(h:StoreOK st Oth M w)(o:Obj):StoreOK st Oth (ku M w.heap.size) (w.alloc o) where
  obj b x hx:=⟨ObjRel.same (h.obj b x hx).1 (Hl w o M Oth) (D6 w o b (h.obj b x hx).1.lt),λo=>.inl ((h.obj b x hx).2 o)⟩
  tok b top ht:=by obtain⟨c,e,fr,h1,h2,h3,h4⟩:=h.tok b top ht;exact⟨c,e,fr,by grind[D6],h2,h3,λo ho=>.inl (h4 o ho)⟩
  mlt b o' hm:=by
    rcases hm with h'|h'
    · have:=h.mlt b o' h';simp;omega
    simp_all
  olt b o' hm:=by have:=h.olt b o' hm;simp;omega
  dis b o' hO hM:=by
    rcases hM with h'|h'
    · exact h.dis b o' hO h'
    · have:=h.olt b o' hO;omega
theorem I3(w:World)(o:Obj)(M:Nat->Nat->Prop):Chg M w (ku M w.heap.size) (w.alloc o) where
  size:=φ
  keep b o' hb _:=F6 (D6 w o b hb) o'
  blk b hb _:=D6 w o b hb
  shp b c e fr hw:=⟨c,fr,by grind[D6],rfl⟩
  sub b o' hm hb:=by
    rcases hm with h|h
    · exact h
    · omega
  tape:=rfl
  os:=rfl
  output:=rfl
theorem StoreOK.fresh(h:StoreOK st Oth M w){b:Nat}(hb:w.heap.size<=b):Fresh st b:=by
  constructor
  · cases ho:st.obj b with
    |none=>rfl
    |some x=>have:=(h.obj b x ho).1.lt;omega
  · cases ho:st.tok b with
    |none=>rfl
    | some x=>
      obtain⟨c,e,fr,h1,_⟩:=h.tok b x ho;grind
theorem Rg{l:List AV}{cs:Array Value}(w:World)(e:TypeId)(M Oth:Nat->Nat->Prop)(h:Reads w (λb o=>M b o\/Oth b o) l cs.toList):
    CellsRel (w.alloc (.cells cs e)) (λb o=>ku M w.heap.size b o\/Oth b o) l w.heap.size:=
  ⟨cs,e,(0,0),Ix w _,rfl,by simpa using h.1,λi x y hx hy=>(h.2 i x y hx δ).keep (Hl w _ M Oth)⟩
theorem Marks.alloc{Oth M:Nat->Nat->Prop}{w:World}{ds:List Deferred}(h:Marks Oth M w ds)(hm:∀b o,M b o->b<w.heap.size)(x:Obj):Marks Oth (ku M w.heap.size) (w.alloc x) ds:=
  h.step λD _ hl h2=>⟨D6 w x D hl,λo hm=>hm.elim (h2 o).1 λe=>θ⟩
theorem MarksD.alloc{Oth M:Nat->Nat->Prop}{w:World}{n:SN}{ds:List Deferred}(h:MarksD Oth M w n ds)(hm:∀b o,M b o->b<w.heap.size)(x:Obj):MarksD Oth (ku M w.heap.size) (w.alloc x) n ds:=by obtain⟨ms,e,h0,h⟩:=h.ex;exact⟨ms,e,h0,h.alloc hm x⟩
theorem SimB.newBx{n:SN}{β:Nat->Nat}{A:Fr}{a:Act}(h:SimB n Oth β A st M a w){d:Nat}(hd:d<n.sz){l:List AV}{cs:Array Value}(e:TypeId)
    (hr:Reads w (λb o=>M b o\/Oth b o) l cs.toList):
    SimB n Oth (λk=>if k=d then w.heap.size else β k) (A.newBx d l) st (ku M w.heap.size) (a.put (some d) (.pointer (some ⟨w.heap.size,0,none⟩))) (w.alloc (.cells cs e)) where
  tsz:=by simp[Act.put,h.tsz]
  dfr:=h.dfr.alloc h.sto.mlt _
  tm i:=by
    simp only[Fr.newBx,Act.put,Fbg];by_cases hi:i=d
    · subst hi
      have:i<a.tmps.size:=by rw[h.tsz];exact hd
      simp_all[LRel]
    · have hb:Nat.beq i d=false:=by grind[ve]
      simp only[hb,cond_false];rw[Array.getElem?_setIfInBounds_ne (Ne.symm hi)];have h1:=h.tm i;rw[Fbg]at h1;cases hx:A.t i with
      |any=>trivial
      |und=>rw[hx]at h1;exact h1
      |av x=>rw[hx]at h1;exact VRel.keep (Hl w _ M Oth) h1
      | bx k o=>
        simp only[LV.kill];cases hk:Nat.beq k d with
        |true=>trivial
        | false=>
          have hne:k≠d:=λe=>θh;simp_all[LRel]
  bx k l' hk:=by
    simp only[Fr.newBx]at hk;by_cases hkd:k=d
    · subst hkd
      simp only[Fbr,cond_true,Faf]at hk;subst hk;simp only[if_true];exact⟨Rg w e M Oth hr,λo=>.inr rfl⟩
    · have hb:Nat.beq k d=false:=by grind[ve]
      simp only[hb,cond_false]at hk;simp only[hkd,if_false];exact⟨(h.bx k l' hk).1.same (Hl w _ M Oth) (D6 w _ _ (h.bx k l' hk).1.lt),λo=>.inl ((h.bx k l' hk).2 o)⟩
  inj k k' hk hk' he:=by
    simp only[Fr.newBx]at hk hk';have hlt:∀k,A.bx k≠none->β k<w.heap.size:=λk hk=>by
      cases hl:A.bx k with
      |none=>grind
      |some l=>exact(h.bx k l hl).1.lt
    by_cases h1:k=d<;>by_cases h2:k'=d
    · omega
    · have hb:Nat.beq k' d=false:=by grind[ve]
      grind
    · have hb:Nat.beq k d=false:=by grind[ve]
      grind
    · have hb:Nat.beq k d=false:=by grind[ve]
      have hb':Nat.beq k' d=false:=by grind[ve]
      simp only[hb,hb',cond_false]at hk hk';simp only[h1,h2,if_false]at he;exact h.inj k k' hk hk' he
  sep k b hk hb he:=by
    have hlt:b<w.heap.size:=by
      rcases hb with hb|hb
      · cases ho:st.obj b with
        |none=>grind
        |some x=>exact(h.sto.obj b x ho).1.lt
      · cases ho:st.tok b with
        |none=>grind
        | some x=>
          obtain⟨c,e,fr,h1,_⟩:=h.sto.tok b x ho;grind
    simp only[Fr.newBx]at hk;by_cases h1:k=d
    · grind
    · have hb':Nat.beq k d=false:=by grind[ve]
      simp only[hb',cond_false]at hk;simp only[h1,if_false]at he;exact h.sep k b hk hb he
  sto:=h.sto.alloc _
theorem SimB.grow1{n:SN}{β:Nat->Nat}{A:Fr}{a:Act}(h:SimB n Oth β A st M a w)(o:Obj):SimB n Oth β A st (ku M w.heap.size) a (w.alloc o) where
  tsz:=h.tsz
  dfr:=h.dfr.alloc h.sto.mlt _
  tm i:=(h.tm i).keep (Hl w _ M Oth)
  bx k l hk:=⟨(h.bx k l hk).1.same (Hl w _ M Oth) (D6 w _ _ (h.bx k l hk).1.lt),λo=>.inl ((h.bx k l hk).2 o)⟩
  inj:=h.inj
  sep:=h.sep
  sto:=h.sto.alloc _
theorem qe{i j:Nat}(h:i≠j):Nat.beq i j=false:=by grind[ve]
theorem SimB.newObj{n:SN}{β:Nat->Nat}{A:Fr}{a:Act}(h:SimB n Oth β A st M a w)(o:Obj)(x:AObj)
    (hr:ObjRel (w.alloc o) (λb o=>ku M w.heap.size b o\/Oth b o) x w.heap.size):
    SimB n Oth β A (st.sO w.heap.size x) (ku M w.heap.size) a (w.alloc o) where
  tsz:=h.tsz
  dfr:=h.dfr.alloc h.sto.mlt _
  tm:=(h.grow1 o).tm
  bx:=(h.grow1 o).bx
  inj:=h.inj
  sep k b hk hb he:=by
    by_cases hbs:b=w.heap.size
    · cases hl:A.bx k with
      |none=>grind
      |some l=>have:=(h.bx k l hl).1.lt;omega
    · refine h.sep k b hk ?_ he
      simpa [Store.sO,qe hbs]using hb
  sto:=by
    have h':=h.sto.alloc o;refine⟨λb y hy=>?_,h'.tok,h'.mlt,h'.olt,h'.dis⟩;by_cases hbs:b=w.heap.size
    · subst hbs
      simp only[Store.sO,Fbr,cond_true,Faf]at hy;subst hy;exact⟨hr,λo=>.inr rfl⟩
    · simp only[Store.sO,qe hbs,cond_false]at hy
      exact h'.obj b y hy
end
section
variable {P:Program} {c:Cfg} {w:World} {Oth M:Nat->Nat->Prop} {st:Store}
theorem CellsRel.mono{T T':Nat->Nat->Prop}(hs:∀b o,T' b o->T b o){l:List AV}{b:Nat}(h:CellsRel w T l b):CellsRel w T' l b:=by obtain⟨c,e,fr,h1,h2,h3,h4⟩:=h;exact⟨c,e,fr,h1,h2,h3,λi x y hx hy=>(h4 i x y hx hy).mono hs⟩
theorem ObjRel.mono{T T':Nat->Nat->Prop}(hs:∀b o,T' b o->T b o){x:AObj}{b:Nat}(h:ObjRel w T x b):ObjRel w T' x b:=by
  cases x with
  |cells l=>exact CellsRel.mono hs h
  | map es bs clock=>
    obtain⟨ms,h1,h2,h3,h4⟩:=h;exact⟨ms,h1,h2,λi x y hx hy=>⟨(h3 i x y hx hy).1.mono hs,(h3 i x y hx hy).2.mono hs⟩,h4⟩
  |iter m since seen last=>exact h
  |ghost o gh=>exact⟨h.1,λp hp=>(h.2 p hp).mono hs⟩
theorem LRel.mono{T T':Nat->Nat->Prop}(hs:∀b o,T' b o->T b o){β:Nat->Nat}{x:LV}{v:Value}(h:LRel w T β x v):LRel w T' β x v:=by
  cases x with
  |any=>trivial
  |und=>exact h
  |av x=>exact VRel.mono hs h
  |bx k off=>exact h
theorem SimB.shrink{n:SN}{β:Nat->Nat}{A:Fr}{a:Act}(h:SimB n Oth β A st M a w){M':Nat->Nat->Prop}(hs:∀b o,M' b o->M b o)
    (hb:∀k l,A.bx k=some l->∀o,M' (β k) o) (ho:∀b x,st.obj b=some x->∀o,M' b o) (ht:∀b top,st.tok b=some top->∀o,top<=o->M' b o):SimB n Oth β A st M' a w where
  tsz:=h.tsz
  dfr:=h.dfr.sub hs
  tm i:=(h.tm i).mono λb o hm=>hm.imp (hs b o) id
  bx k l hk:=⟨(h.bx k l hk).1.mono λb o hm=>hm.imp (hs b o) id,hb k l hk⟩
  inj:=h.inj
  sep:=h.sep
  sto:=
    { obj:=λb x hx=>⟨(h.sto.obj b x hx).1.mono λb o hm=>hm.imp (hs b o) id,ho b x hx⟩
      tok:=λb top hx=>by obtain⟨c,e,fr,h1,h2,h3,h4⟩:=h.sto.tok b top hx;grind
      mlt:=λb o hm=>h.sto.mlt b o (hs b o hm)
      olt:=h.sto.olt
      dis:=λb o hO hM=>h.sto.dis b o hO (hs b o hM)}
def cj(M:Nat->Nat->Prop)(B top:Nat):Nat->Nat->Prop:=λb o=>M b o\/(b=B/\top<=o)
theorem zfm(w:World)(o:Obj)(M:Nat->Nat->Prop)(top:Nat):Chg M w (cj M w.heap.size top) (w.alloc o):=
  { I3 w o M with
    sub:=λb o' hm hb=>by
      rcases hm with h|h
      · exact h
      · omega}
theorem SimB.newTok{n:SN}{β:Nat->Nat}{A:Fr}{a:Act}(h:SimB n Oth β A st M a w)(cs:Array Value)(e:TypeId)(top:Nat)(htop:top<=cs.size):
    SimB n Oth β A (st.sT w.heap.size (some top)) (cj M w.heap.size top) a (w.alloc (.cells cs e)):=by
  have h1:=(h.grow1 (.cells cs e)).shrink (M':=cj M w.heap.size top) (λb o hm=>hm.imp id λh=>h.1)
    (λk l hk o=>.inl ((h.bx k l hk).2 o)) (λb x hx o=>.inl ((h.sto.obj b x hx).2 o))
    (λb t hx o ho=>by obtain⟨c,e,fr,h1,h2,h3,h4⟩:=h.sto.tok b t hx;exact .inl (h4 o ho))
  refine{h1 with sep:=λk b hk hb he=>?_,sto:={h1.sto with tok:=λb t ht=>?_}}
  · by_cases hbs:b=w.heap.size
    · cases hl:A.bx k with
      |none=>grind
      |some l=>have:=(h.bx k l hl).1.lt;omega
    · refine h.sep k b hk ?_ he
      simpa [Store.sT,qe hbs]using hb
  · by_cases hbs:b=w.heap.size
    · subst hbs
      simp only[Store.sT,Fbr,cond_true,Faf]at ht;subst ht;exact⟨cs,e,(0,0),Ix w _,.inl rfl,htop,λo ho=>.inr ⟨rfl,ho⟩⟩
    · simp only[Store.sT,qe hbs,cond_false]at ht
      exact h1.sto.tok b t ht
structure Wrote(w:World)(b o:Nat)(vs:List Value)(w':World):Prop where
  size:w'.heap.size=w.heap.size
  other:∀b',b'≠b->w'.heap[b']?=w.heap[b']?
  blk:∀c e fr,w.heap[b]?=some (.cells c e fr)->∃c',w'.heap[b]?=some (.cells c' e fr)/\c'.toList=c.toList.take o++vs++c.toList.drop (o+vs.length)/\c'.size=c.size
  tape:w'.tape=w.tape
  os:w'.os=w.os
  output:w'.output=w.output
theorem Wp(w:World)(b o:Nat)(v:Value)(b':Nat):(w.setCell ⟨b,o,none⟩ v).heap[b']?=if b'=b then(w.heap[b']?).map (λ|.cells c e fr=>.cells (c.setIfInBounds o v) e fr|x=>x)else w.heap[b']?:=by simp only[World.setCell,Fcv];grind
theorem Kq(w:World)(b o:Nat):∀(vs:List Value) (i:Nat) (w:World) (c:Array Value) (e:TypeId) (fr:Nat×Nat),w.heap[b]?=some (.cells c e fr)->Fi fr c.size->o+i+vs.length<=c.size->
    (∀v∈vs,qw v=true)->∃w',(storeCells ⟨b,o,none⟩ vs i).run P w=.ok () w'/\Wrote w b (o+i) vs w':=by
  intro vs;induction vs with
  | nil=>
    intro i w c e fr hw _ _ _;exact⟨w,ξ,rfl,λ_ _=>rfl,λc e fr h=>⟨c,h,φ,rfl⟩,rfl,rfl,rfl⟩
  | cons v vs ih=>
    intro i w c e fr hw hf hlen hone;simp only[Fbd]at hlen;have hlt:o+i<c.size:=θ;have hcell:w.cell? ⟨b,o+i,none⟩=some c[o+i]:=by simp[World.cell?,hw,hlt]
    have hfz:w.frozen? ⟨b,o+i,none⟩=false:=by grind[World.frozen?,Fi]
    have hst:(store (Addr.add ⟨b,o,none⟩ i) v).run P w=.ok () (w.setCell ⟨b,o+i,none⟩ v):=by rw[wx];have h1:=hone v φ;cases v<;>simp[qw]at h1<;>simp[store,Sem.run,hcell,hfz]
    have hw1:(w.setCell ⟨b,o+i,none⟩ v).heap[b]?=some (.cells (c.setIfInBounds (o+i) v) e fr):=by simp_all[Wp]
    obtain⟨w',hr,hwr⟩:=ih (i+1) _ _ e fr hw1 δ δ (λv hv=>hone v (by simp[hv]));refine⟨w',by grind[storeCells,Sem.run_bind,Result.andThen_ok],by rw[hwr.size];simp,λb' hb=>by rw[hwr.other b' hb,Wp,if_neg hb],λc₁ e₁ fr₁ hc₁=>?_,by rw[hwr.tape];rfl,by rw[hwr.os];rfl,by rw[hwr.output];rfl⟩;rw[hw]at hc₁;cases hc₁;obtain⟨c',hc',hl,hs⟩:=hwr.blk _ _ _ hw1;refine⟨c',hc',?_,δ⟩;rw[hl];apply Fb8;simp only[List.getElem?_append,Fd5,Fcu,Fd9,Fad,Fam,Faz,Fbd,Fco];grind
theorem Wrote.keeps{b o:Nat}{vs:List Value}{w':World}(h:Wrote w b o vs w'){T:Nat->Nat->Prop}(hb:∀o,T b o):Keeps w T w' T where
  cell b' o' c hc hT:=by have hne:b'≠b:=λe=>hT (e▸hb o');rw[F6 (h.other b' hne)];exact hc
  out b' o' c hc hT:=hT
  shp b' c e fr hw:=by
    by_cases hbb:b'=b
    · subst hbb
      obtain⟨c',h1,_,h2⟩:=h.blk c e fr hw;grind
    · exact⟨c,fr,by rw[h.other b' hbb];exact hw,rfl⟩
theorem Wrote.chg{b o:Nat}{vs:List Value}{w':World}(h:Wrote w b o vs w')(hb:∀o,M b o):Chg M w M w' where
  size:=by rw[h.size];simp
  keep b' o' _ hm:=F6 (h.other b' λe=>hm (e▸hb o')) o'
  blk b' _ hm:=h.other b' λe=>hm 0 (e▸hb 0)
  shp:=(h.keeps hb).shp
  sub _ _ hm _:=hm
  tape:=h.tape
  os:=h.os
  output:=h.output
theorem CellsRel.wrote{b o:Nat}{vs:List Value}{w':World}{T:Nat->Nat->Prop}(h:Wrote w b o vs w')(hT:∀o,T b o){l xs:List AV}(hl:CellsRel w T l b)(hx:Reads w T xs vs):
    CellsRel w' T (zp l o xs) b:=by
  obtain⟨c,e,fr,h1,h2,h3,h4⟩:=hl;obtain⟨c',h5,h6,h7⟩:=h.blk c e fr h1;have hr:Reads w T l c.toList:=⟨θ,λi x y hx hy=>h4 i x y hx δ⟩
  have hr':Reads w' T (zp l o xs) c'.toList:=by rw[h6];refine(((hr.take o).append hx).append ?_).keep (h.keeps hT);rw[hx.1];exact hr.drop _
  exact⟨c',e,fr,h5,h2,by simpa using hr'.1,λi x y hx hy=>hr'.2 i x y hx δ⟩
theorem StoreOK.wrote{b o:Nat}{vs:List Value}{w':World}(h:StoreOK st Oth M w)(hw:Wrote w b o vs w')(hb:∀o,M b o)(hob:st.obj b=none):StoreOK st Oth M w' where
  obj b' x hx:=by have hne:b'≠b:=λe=>δ;exact⟨ObjRel.same (h.obj b' x hx).1 (hw.keeps λo=>.inl (hb o)) (hw.other b' hne),(h.obj b' x hx).2⟩
  tok b' top ht:=by
    obtain⟨c,e,fr,h1,h2,h3,h4⟩:=h.tok b' top ht;by_cases he:b'=b
    · subst he
      obtain⟨c',h5,_,h6⟩:=hw.blk c e fr h1;grind
    · exact⟨c,e,fr,θ5,h2,h3,h4⟩
  mlt b' o' hm:=by rw[hw.size];exact h.mlt b' o' hm
  olt b' o' hm:=by rw[hw.size];exact h.olt b' o' hm
  dis:=h.dis
theorem SimB.setBx{n:SN}{β:Nat->Nat}{A:Fr}{a:Act}(h:SimB n Oth β A st M a w){k o:Nat}{l xs:List AV}{vs:List Value}{w':World}(hk:A.bx k=some l)
    (hx:Reads w (λb o=>M b o\/Oth b o) xs vs) (hw:Wrote w (β k) o vs w'):SimB n Oth β (A.setBx k (zp l o xs)) st M a w':=by
  have hM:=(h.bx k l hk).2;have hT:∀o,M (β k) o\/Oth (β k) o:=λo=>.inl (hM o);have hsome:∀k',(A.setBx k (zp l o xs)).bx k'≠none->A.bx k'≠none:=by grind[Fr.setBx,qe]
  have hob:st.obj (β k)=none:=by
    cases ho:st.obj (β k)with
    |none=>rfl
    |some x=>exact absurd rfl (h.sep k (β k) δ (.inl δ))
  exact
    { tsz:=h.tsz
      dfr:=h.dfr.step λD _ _ h2=>⟨hw.other D λe=>(h2 0).1 (e▸hM 0),λo=>(h2 o).1⟩
      tm:=λi=>(h.tm i).keep (hw.keeps hT)
      bx:=λk' l' hk'=>by
        by_cases he:k'=k
        · subst he
          simp only[Fr.setBx,Fbr,cond_true,Faf]at hk';subst hk';exact⟨CellsRel.wrote hw hT (h.bx k' l hk).1 hx,hM⟩
        · simp only[Fr.setBx,qe he,cond_false]at hk'
          have hne:β k'≠β k:=λe=>he (h.inj k' k δ δ e);exact⟨(h.bx k' l' hk').1.same (hw.keeps hT) (hw.other _ hne),(h.bx k' l' hk').2⟩
      inj:=λk1 k2 h1 h2=>h.inj k1 k2 (hsome k1 h1) (hsome k2 h2)
      sep:=λk1 b h1=>h.sep k1 b (hsome k1 h1)
      sto:=h.sto.wrote hw hM hob}
theorem SimB.sO{n:SN}{β:Nat->Nat}{A:Fr}{a:Act}(h:SimB n Oth β A st M a w){b o:Nat}{l xs:List AV}{vs:List Value}{w':World}(hk:st.obj b=some (.cells l))
    (hx:Reads w (λb o=>M b o\/Oth b o) xs vs) (hw:Wrote w b o vs w'):SimB n Oth β A (st.sO b (.cells (zp l o xs))) M a w':=by
  have hM:=(h.sto.obj b _ hk).2;have hT:∀o,M b o\/Oth b o:=λo=>.inl (hM o)
  exact
    { tsz:=h.tsz
      dfr:=h.dfr.step λD _ _ h2=>⟨hw.other D λe=>(h2 0).1 (e▸hM 0),λo=>(h2 o).1⟩
      tm:=λi=>(h.tm i).keep (hw.keeps hT)
      bx:=λk' l' hk'=>by have hne:β k'≠b:=h.sep k' b δ (.inl δ);exact⟨(h.bx k' l' hk').1.same (hw.keeps hT) (hw.other _ hne),(h.bx k' l' hk').2⟩
      inj:=h.inj
      sep:=λk1 b1 h1 h2=>h.sep k1 b1 h1 (by grind[Store.sO,qe])
      sto:=
        { obj:=λb' x hx'=>by
            by_cases he:b'=b
            · subst he
              simp only[Store.sO,Fbr,cond_true,Faf]at hx';subst hx';exact⟨CellsRel.wrote hw hT (h.sto.obj b' _ hk).1 hx,hM⟩
            · simp only[Store.sO,qe he,cond_false]at hx'
              exact⟨ObjRel.same (h.sto.obj b' x hx').1 (hw.keeps hT) (hw.other b' he),(h.sto.obj b' x hx').2⟩
          tok:=λb' top ht=>by
            obtain⟨c,e,fr,h1,h2,h3,h4⟩:=h.sto.tok b' top ht;by_cases he:b'=b
            · subst he
              obtain⟨c',h5,_,h6⟩:=hw.blk c e fr h1;grind
            · exact⟨c,e,fr,θ5,h2,h3,h4⟩
          mlt:=λb' o' hm=>by rw[hw.size];exact h.sto.mlt b' o' hm
          olt:=λb' o' hm=>by rw[hw.size];exact h.sto.olt b' o' hm
          dis:=h.sto.dis}}
end
section
variable {P:Program} {c:Cfg} {K:Fr->Store->Prop} {A:Fr} {st:Store}
theorem Ax{d n:Nat}{p:Prop}(h:bif Nat.blt d n then p else False):d<n/\p:=θh
theorem yso{o:Oper}{t:TypeId}(ho:o.op=.alloc t)(hI:y9 P c.I)
    (h:optK (c.I t) λi=>optK o.dst λd=>bif Nat.blt d c.n then
      (bif c.G.contains d then∀b,Fresh st b->K (A.put d (.av (.s (.pointer (some ⟨b,0,none⟩))))) (st.sO b (.cells (Cf i)))
        else K (A.newBx d (Cf i)) st)else False):AOp P c.N o K A st:=by
  obtain⟨i,hi,h⟩:=zr h;obtain⟨d,hd,h⟩:=zr h;obtain⟨hlt,h⟩:=Ax h;rintro Oth M a w ⟨β,sim⟩;obtain⟨z,hz1,hz2⟩:=Mf (hI _ _ hi) w;have hr:(execOp a.eval o).run P w=.ok (.value (.pointer (some ⟨w.heap.size,0,none⟩))) (w.alloc (.cells z.cells t)):=by simp_all[execOp,Instr.alloc,newVar,newRow]
  have hrd:∀T,Reads w T (Cf i) z.cells.toList:=λT=>by grind[Cf,Reads.map_s]
  unfold Oper.wp;rw[hr,Oper.upon_value,hd];cases hg:c.G.contains d with
  | true=>
    rw[hg]at h;refine⟨_,_,ku M w.heap.size,h w.heap.size (sim.sto.fresh (Fak _)),⟨β,?_⟩,I3 _ _ _⟩;exact(sim.newObj _ (.cells (Cf i)) (Rg w t M Oth (hrd _))).put hlt (VRel.s _)
  | false=>
    rw[hg]at h;exact⟨_,_,ku M w.heap.size,h,⟨_,sim.newBx hlt t (hrd _)⟩,I3 _ _ _⟩
theorem ysl{o:Oper}{t:TypeId}{x:Operand}(ho:o.op=.box t x)(hI:y9 P c.I)
    (h:optK o.dst λd=>bif Nat.blt d c.n then(match A.ev x with
      | .av x=>optK (cellsOf x) λl=>
        bif c.G.contains d then∀b,Fresh st b->K (A.put d (.av (.s (.pointer (some ⟨b,0,none⟩))))) (st.sO b (.cells l))
        else K (A.newBx d l) st
      |_=>False)else False):AOp P c.N o K A st:=by
  obtain⟨d,hd,h⟩:=zr h;obtain⟨hlt,h⟩:=Ax h;split at h
  · rename_i y hy
    obtain⟨l,hl,h⟩:=zr h;rintro Oth M a w ⟨β,sim⟩;have hv:=qk sim.env hy;obtain⟨hrd,_⟩:=od hv hl;have hr:(execOp a.eval o).run P w=.ok (.value (.pointer (some ⟨w.heap.size,0,none⟩))) (w.alloc (.cells (a.eval x).cells t)):=by simp[execOp,ho,Instr.box,newVar,newRow]
    unfold Oper.wp;rw[hr,Oper.upon_value,hd];cases hg:c.G.contains d with
    | true=>
      rw[hg]at h;refine⟨_,_,ku M w.heap.size,h w.heap.size (sim.sto.fresh (Fak _)),⟨β,?_⟩,I3 _ _ _⟩;exact(sim.newObj _ (.cells l) (Rg w t M Oth hrd)).put hlt (VRel.s _)
    | false=>
      rw[hg]at h;exact⟨_,_,ku M w.heap.size,h,⟨_,sim.newBx hlt t hrd⟩,I3 _ _ _⟩
  grind
theorem ysg{o:Oper}{t:TypeId}{p x:Operand}(ho:o.op=.store t p x)(hd:o.dst=none)(hI:y9 P c.I)
    (h:optK (c.I t) λi=>match A.ev x with
      |.av x=>Db i A st (A.ev p) x K
      |_=>False):AOp P c.N o K A st:=by
  obtain⟨i,hi,h⟩:=zr h;split at h
  · rename_i y hy
    obtain⟨xs,hxs,h⟩:=zr h;cases hb:(Nat.beq xs.length i.size&&xs.all AV.one)with
    |false=>grind
    |true=>
    rw[hb]at h;simp only[Fay]at hb;have hsz:xs.length=i.size:=(ve _ _).1 hb.1;rintro Oth M a w ⟨β,sim⟩;have hv:=qk sim.env hy;obtain⟨hrd,hone⟩:=od hv hxs;have hone':∀v∈(a.eval x).cells.toList,qw v=true:=by
      intro v hv;obtain⟨j,hj⟩:=Fa4.1 hv;have hjl:j<xs.length:=by rw[hrd.1];grind
      exact gq (hrd.2 j _ v (Fac hjl) hj) (Fci.1 hb.2 _ (Faa hjl))
    have hvs:(a.eval x).cells.size=i.size:=by rw[<-hsz,hrd.1];simp
    unfold Oper.wp;split at h
    · rename_i k off hp
      obtain⟨l,hl,h⟩:=zr h;cases hb2:Nat.ble (off+xs.length) l.length with
      |false=>grind
      |true=>
      rw[hb2]at h;simp only[cond_true,Gu]at h;have hle:off+xs.length<=l.length:=Fbm hb2;have hp':a.eval p=.pointer (some ⟨β k,off,none⟩):=by have:=sim.ev p;rw[hp]at this;exact this
      obtain⟨⟨cs,e,fr,h1,h2,h3,h4⟩,hM⟩:=sim.bx k l hl;obtain⟨w',hr,hw⟩:=Kq (P:=P) w (β k) off (a.eval x).cells.toList 0 w cs e fr h1 (.inl h2) δ hone';have hrun:(execOp a.eval o).run P w=.ok .skip w':=ψr;rw[hrun,Oper.upon_skip,hd];exact⟨_,_,M,h,⟨β,sim.setBx hl hrd hw⟩,hw.chg hM⟩
    · rename_i b off hp
      obtain⟨ob,hob,h⟩:=zr h;cases ob with
      |map es bs clock=>grind
      |iter m since seen last=>grind
      |ghost o gh=>grind
      |cells l=>
      obtain⟨hle,h⟩:=h;rw[Gu]at h;have hp':a.eval p=.pointer (some ⟨b,off,none⟩):=VRel.eq_s (qk sim.env hp);obtain⟨⟨cs,e,fr,h1,h2,h3,h4⟩,hM⟩:=sim.sto.obj b _ hob;obtain⟨w',hr,hw⟩:=Kq (P:=P) w b off (a.eval x).cells.toList 0 w cs e fr h1 (.inl h2) δ hone';have hrun:(execOp a.eval o).run P w=.ok .skip w':=ψr;rw[hrun,Oper.upon_skip,hd];exact⟨_,_,M,h,⟨β,sim.sO hob hrd hw⟩,hw.chg hM⟩
    grind
  grind
end
section
variable {P:Program} {c:Cfg} {K:Fr->Store->Prop} {A:Fr} {st:Store}
theorem VRel.clos_inv{w:World}{T:Nat->Nat->Prop}{f:FuncId}{cs:List AV}{v:Value}(h:VRel w T (.clos f cs) v):∃c,v=.func (.func f) #[] c/\Reads w T cs c.toList:=by
  cases h with
  |clos _ _ c hl h=>exact⟨c,rfl,θ,λi x y hx hy=>h i x y hx δ⟩
def inM(M:Nat->Nat->Prop)(A:Fr)(β:Nat->Nat):Nat->Nat->Prop:=λb o=>M b o/\∀k,A.bx k≠none->β k≠b
def Vs(Oth M:Nat->Nat->Prop)(A:Fr)(β:Nat->Nat):Nat->Nat->Prop:=λb o=>Oth b o\/(M b o/\∃k,A.bx k≠none/\β k=b)
theorem Iu{Oth M:Nat->Nat->Prop}{β:Nat->Nat}:∀b o,(inM M A β b o\/Vs Oth M A β b o)->(M b o\/Oth b o):=by
  rintro b o (h|h|h)
  · exact .inl h.1
  · grind
  grind
theorem SimB.inner{n:SN}{Oth M:Nat->Nat->Prop}{β:Nat->Nat}{a:Act}{w:World}(sim:SimB n Oth β A st M a w):StoreOK st (Vs Oth M A β) (inM M A β) w:=
  { obj:=λb x hx=>⟨(sim.sto.obj b x hx).1.mono Iu,λo=>⟨(sim.sto.obj b x hx).2 o,λk hk=>sim.sep k b hk (.inl δ)⟩⟩
    tok:=λb top hx=>by obtain⟨c,e,fr,h1,h2,h3,h4⟩:=sim.sto.tok b top hx;exact⟨c,e,fr,h1,h2,h3,λo ho=>⟨h4 o ho,λk hk=>sim.sep k b hk (.inr δ)⟩⟩
    mlt:=λb o hm=>sim.sto.mlt b o hm.1
    olt:=λb o hm=>by
      rcases hm with h|h
      · exact sim.sto.olt b o h
      · exact sim.sto.mlt b o h.1
    dis:=λb o hO hM=>by
      rcases hO with h|⟨h,k,hk,he⟩
      · exact sim.sto.dis b o h hM.1
      · exact hM.2 k hk he}
theorem SimB.post{n:SN}{Oth M:Nat->Nat->Prop}{β:Nat->Nat}{a:Act}{w:World}(sim:SimB n Oth β A st M a w){R:Ja}:
    ∀v w',qy st R (Vs Oth M A β) (inM M A β) w v w'->∃r st' M',R r st'/\VRel w' (λb o=>M' b o\/Oth b o) r v/\SimB n Oth β A st' M' a w'/\Chg M w M' w':=by
  rintro v w' ⟨r,st',Mc',hR,hr,hsto,hchg⟩
  let M':Nat->Nat->Prop:=λb o=>Mc' b o\/(M b o/\∃k,A.bx k≠none/\β k=b)
  have hT2:∀b o,(M' b o\/Oth b o)->(Mc' b o\/Vs Oth M A β b o):=by
    rintro b o ((h|h)|h)
    · grind
    · exact .inr (.inr h)
    · exact .inr (.inl h)
  have hblk:∀k,A.bx k≠none->w'.heap[β k]?=w.heap[β k]?:=λk hk=>by
    cases hl:A.bx k with
    |none=>grind
    |some l=>exact hchg.blk _ (sim.bx k l hl).1.lt λo hm=>hm.2 k hk rfl
  have hno:∀k b o,A.bx k≠none->Mc' b o->β k≠b:=λk b o hk hm he=>by
    subst he;cases hl:A.bx k with
    |none=>grind
    |some l=>exact(hchg.sub _ o hm (sim.bx k l hl).1.lt).2 k hk rfl
  refine⟨r,st',M',hR,hr.mono hT2,?_,?_⟩
  · exact
      { tsz:=sim.tsz
        dfr:=sim.dfr.step λD _ hl h2=>⟨hchg.blk D hl λo hm=>(h2 o).1 hm.1,λo hm=>by
          rcases hm with hm|hm
          · exact(h2 o).1 (hchg.sub D o hm hl).1
          grind⟩
        tm:=λi=>((LRel.mono Iu (sim.tm i)).keep hchg.keeps).mono hT2
        bx:=λk l hl=>by have hk:A.bx k≠none:=δ;exact⟨(((sim.bx k l hl).1.mono Iu).same hchg.keeps (hblk k hk)).mono hT2,λo=>.inr ⟨(sim.bx k l hl).2 o,k,hk,rfl⟩⟩
        inj:=sim.inj
        sep:=λk b hk hb=>by
          rcases hb with hb|hb
          · cases ho:st'.obj b with
            |none=>grind
            |some x=>exact hno k b 0 hk ((hsto.obj b x ho).2 0)
          · cases ho:st'.tok b with
            |none=>grind
            | some top=>
              obtain⟨c,e,fr,h1,h2,h3,h4⟩:=hsto.tok b top ho;grind
        sto:=
          { obj:=λb x hx=>⟨(hsto.obj b x hx).1.mono hT2,λo=>.inl ((hsto.obj b x hx).2 o)⟩
            tok:=λb top hx=>by obtain⟨c,e,fr,h1,h2,h3,h4⟩:=hsto.tok b top hx;grind
            mlt:=λb o hm=>by
              rcases hm with h|h
              · exact hsto.mlt b o h
              · exact Nat.lt_of_lt_of_le (sim.sto.mlt b o h.1) hchg.size
            olt:=λb o hm=>Nat.lt_of_lt_of_le (sim.sto.olt b o hm) hchg.size
            dis:=λb o hO hM=>by
              rcases hM with h|h
              · exact hsto.dis b o (.inl hO) h
              · exact sim.sto.dis b o hO h.1}}
  · exact
      { size:=hchg.size
        keep:=λb o hb hm=>hchg.keep b o hb λh=>hm h.1
        blk:=λb hb hm=>hchg.blk b hb λo h=>hm o h.1
        shp:=hchg.shp
        sub:=λb o hm hb=>by
          rcases hm with h|h
          · exact(hchg.sub b o h hb).1
          grind
        tape:=hchg.tape
        os:=hchg.os
        output:=hchg.output}
theorem SimB.call{n:SN}{Oth M:Nat->Nat->Prop}{β:Nat->Nat}{a:Act}{w:World}(sim:SimB n Oth β A st M a w){g:FuncId}{args:List AV}{vs:Array Value}{R:Ja}
    (hc:ACalls P g args st R) (hv:Reads w (λb o=>M b o\/Oth b o) args vs.toList):
    zg7 P (λv w'=>∃r st' M',R r st'/\VRel w' (λb o=>M' b o\/Oth b o) r v/\SimB n Oth β A st' M' a w'/\Chg M w M' w') ((callFunc g vs).run P w):=by
  have key:=sim.post (R:=R);have hout:=hc.out _ _ w vs sim.inner ⟨hv.1,λi x y hx hy=>(hv.2 i x y hx hy).mono Iu⟩;generalize(callFunc g vs).run P w=res at*;cases res with
  |halt h w'=>trivial
  | ok nx w'=>
    cases nx with
    |enter f as=>exact Calls.mono hout λe w'' ⟨v,he,hp⟩=>⟨v,he,key v w'' hp⟩
    |value v=>exact key v w' hout
    |_=>trivial
theorem cg{o:Oper}(hI:y9 P c.I)(h:vcX P c o K A st):AOp P c.N o K A st:=by
  obtain⟨vs,hvs,h⟩:=zr h;rintro Oth M a w ⟨β,sim⟩;obtain⟨hm1,hm2⟩:=Mu hvs;have hr:Reads w (λb o=>M b o\/Oth b o) vs (o.op.operands.map a.eval).toList:=ψi;have hout:=h.out _ _ w a.eval hI sim.inner ⟨hr.1,λi x y hx hy=>(hr.2 i x y hx hy).mono Iu⟩;have key:=sim.post (R:=λr st'=>xf A c.n o.dst (.av r) λA'=>K A' st')
  have fin:∀v w',(∃r st' M',(xf A c.n o.dst (.av r) λA'=>K A' st')/\VRel w' (λb o=>M' b o\/Oth b o) r v/\SimB c.N Oth β A st' M' a w'/\Chg M w M' w')->
      ∃A' st' M',K A' st'/\Sim c.N Oth A' st' M' (a.put o.dst v) w'/\Chg M w M' w':=by
    rintro v w' ⟨r,st',M',hk,hv,hs,hchg⟩;cases hd:o.dst with
    |none=>rw[hd]at hk;exact⟨A,st',M',hk,⟨β,hs⟩,hchg⟩
    | some d=>
      rw[hd]at hk;obtain⟨hlt,hk⟩:=Ax hk;exact⟨_,st',M',hk,⟨β,hs.put hlt hv⟩,hchg⟩
  unfold Oper.wp;generalize(execOp a.eval o).run P w=res at*;cases res with
  |halt h w'=>grind
  | ok nx w'=>
    cases nx with
    |value v=>exact fin v w' (key v w' hout)
    | skip=>
      obtain⟨hd,hout⟩:=hout;have:=fin _ w' (key _ w' hout);trivial
    |_=>grind
theorem zak(w:World)(T:Nat->Nat->Prop)(l:List Value):Reads w T (l.map AV.s) l:=⟨φ,λi x y hx hy=>by rw[Faq,hy]at hx;cases hx;exact .s _⟩
theorem yn2{w:World}{T:Nat->Nat->Prop}{x:LV}{g:FuncId}{fv cap:List AV}{v:Value}(h:Wy x=some (g,fv,cap))(hx:∀y,x=.av y->VRel w T y v):∃f c,v=.func (.func g) f c/\Reads w T fv f.toList/\Reads w T cap c.toList:=by
  unfold Wy at h;split at h
  · cases h
    obtain⟨c,h1,h2⟩:=VRel.clos_inv (hx _ rfl);exact⟨#[],c,h1,Reads.nil,h2⟩
  · cases h
    exact⟨_,_,VRel.eq_s (hx _ rfl),zak _ _ _,zak _ _ _⟩
  · cases h
theorem ysk{o:Oper}{cl:Call}{f:Operand}(ho:o.op=.call cl)(hcl:cl.callee=.value f)
    (h:match Wy (A.ev f)with
      | some (g,fv,cap)=>optK (cl.args.toList.mapM λx=>(A.ev x).toAV) λvs=>
        ACalls P g (fv++(vs++cap)) st λr st'=>xf A c.n o.dst (.av r) λA'=>K A' st'
      |_=>False):AOp P c.N o K A st:=by
  split at h
  · rename_i g fv cap hf
    obtain⟨vs,hvs,h⟩:=zr h;rintro Oth M a w ⟨β,sim⟩;obtain⟨fvv,capv,hcv,hfr,hcr⟩:=yn2 hf λx hx=>qk sim.env hx;obtain⟨hm1,hm2⟩:=Mu hvs;have hr1:Reads w (λb o=>M b o\/Oth b o) vs (cl.args.map a.eval).toList:=ψi;have hr:Reads w (λb o=>M b o\/Oth b o) (fv++(vs++cap)) (fvv++(cl.args.map a.eval)++capv).toList:=by rw[Fbf,Fbf,Fao];exact hfr.append (hr1.append hcr)
    have hrun:(execOp a.eval o).run P w=(callFunc g (fvv++(cl.args.map a.eval)++capv)).run P w:=by grind[execOp,resolve,Deferred.ofValue,invoke]
    have hc:=sim.call h hr;unfold Oper.wp;rw[hrun]
    have fin:∀v w',(∃r st' M',(xf A c.n o.dst (.av r) λA'=>K A' st')/\VRel w' (λb o=>M' b o\/Oth b o) r v/\SimB c.N Oth β A st' M' a w'/\Chg M w M' w')->
        ∃A' st' M',K A' st'/\Sim c.N Oth A' st' M' (a.put o.dst v) w'/\Chg M w M' w':=by
      rintro v w' ⟨r,st',M',hk,hv,hs,hchg⟩;cases hd:o.dst with
      |none=>rw[hd]at hk;exact⟨A,st',M',hk,⟨β,hs⟩,hchg⟩
      | some d=>
        rw[hd]at hk;obtain⟨hlt,hk⟩:=Ax hk;exact⟨_,st',M',hk,⟨β,hs.put hlt hv⟩,hchg⟩
    generalize(callFunc g (fvv++(cl.args.map a.eval)++capv)).run P w=res at*;cases res with
    |halt h w'=>trivial
    | ok nx w'=>
      cases nx with
      | enter f as=>
        exact Calls.mono hc λe w'' ⟨v,he,hp⟩=>by subst he;exact fin v w'' hp
      |value v=>exact fin v w' hc
      |_=>trivial
  grind
theorem ysi{o:Oper}{cl:Call}{y:Operand}{m:String}(ho:o.op=.call cl)(hcl:cl.callee=.invoke y m)(h:Wd P c o cl m (A.ev y) K A st):AOp P c.N o K A st:=by
  unfold Wd at h;split at h
  · rename_i t v hf
    obtain⟨vs,hvs,g,x,⟨u,hm,hu⟩,h⟩:=zr h;rintro Oth M a w ⟨β,sim⟩;have hcv:a.eval y=.iface t v:=VRel.eq_s (qk sim.env hf);obtain⟨hm1,hm2⟩:=Mu hvs;have hr1:Reads w (λb o=>M b o\/Oth b o) vs (cl.args.map a.eval).toList:=ψi;have hr:Reads w (λb o=>M b o\/Oth b o) (x::vs) (#[u]++(cl.args.map a.eval)).toList:=by grind[Reads.cons]
    have hrun:(execOp a.eval o).run P w=(callFunc g (#[u]++(cl.args.map a.eval))).run P w:=by
      have e1:(#[Value.iface t v]++Array.map a.eval cl.args).extract 1 (#[Value.iface t v]++Array.map a.eval cl.args).size=Array.map a.eval cl.args:=φ;have e2:execOp a.eval o=callMethod (.iface t v) m ((#[Value.iface t v]++Array.map a.eval cl.args).extract 1 (#[Value.iface t v]++Array.map a.eval cl.args).size):=by
        have e3:(#[Value.iface t v]++Array.map a.eval cl.args)[0]?=some (Value.iface t v):=by simp_all[Fda]
        simp_all[execOp,resolve,invoke]
      rw[e2,e1];simp[callMethod,hm]
    have hc:=sim.call h hr;unfold Oper.wp;rw[hrun]
    have fin:∀v w',(∃r st' M',(xf A c.n o.dst (.av r) λA'=>K A' st')/\VRel w' (λb o=>M' b o\/Oth b o) r v/\SimB c.N Oth β A st' M' a w'/\Chg M w M' w')->
        ∃A' st' M',K A' st'/\Sim c.N Oth A' st' M' (a.put o.dst v) w'/\Chg M w M' w':=by
      rintro v w' ⟨r,st',M',hk,hv,hs,hchg⟩;cases hd:o.dst with
      |none=>rw[hd]at hk;exact⟨A,st',M',hk,⟨β,hs⟩,hchg⟩
      | some d=>
        rw[hd]at hk;obtain⟨hlt,hk⟩:=Ax hk;exact⟨_,st',M',hk,⟨β,hs.put hlt hv⟩,hchg⟩
    generalize(callFunc g (#[u]++(cl.args.map a.eval))).run P w=res at*;cases res with
    |halt h w'=>trivial
    | ok nx w'=>
      cases nx with
      | enter f as=>
        exact Calls.mono hc λe w'' ⟨v,he,hp⟩=>by subst he;exact fin v w'' hp
      |value v=>exact fin v w' hc
      |_=>trivial
  grind
end
section
variable {P:Program} {c:Cfg} {K:Fr->Store->Prop} {A:Fr} {st:Store}
theorem Lh{α:Type}{k:Nat}:∀{rows:List (List α)} (_:∀row∈rows,row.length=k) {i j:Nat} {row:List α} {x:α},rows[i]?=some row->row[j]?=some x->rows.flatten[i*k+j]?=some x:=by
  intro rows;induction rows with
  |nil=>simp
  | cons r rows ih=>
    intro hk i j row x h1 h2;cases i with
    | zero=>
      grind
    | succ i=>
      grind
theorem D9{α:Type}{k:Nat}:∀{rows:List (List α)} (_:∀row∈rows,row.length=k),rows.flatten.length=rows.length*k:=by
  intro rows;induction rows with
  |nil=>simp
  | cons r rows ih=>
    grind
theorem tg(r l xs:List AV)(o:Nat):zp (r++l) (r.length+o) xs=r++zp l o xs:=by unfold zp;rw[List.take_append,List.drop_append];have h1:List.take (r.length+o) r=r:=Fcd θ;have h2:List.drop (r.length+o+xs.length) r=[]:=Fc2 θ;rw[h1];have e1:r.length+o-r.length=o:=θ;have e2:r.length+o+xs.length-r.length=o+xs.length:=θ;grind
theorem yn8{k:Nat}{xs:List AV}(hx:xs.length=k):∀{rows:List (List AV)} (_:∀row∈rows,row.length=k) {i:Nat},i<rows.length->(rows.set i xs).flatten=zp rows.flatten (i*k) xs:=by
  intro rows;induction rows with
  |nil=>simp
  | cons r rows ih=>
    intro hk i hi;cases i with
    | zero=>
      simp_all[zp]
    | succ i=>
      simp only[List.set_cons_succ,Fea];rw[ih (λrow h=>hk row (by simp[h])) δ];rw[<-tg];grind
theorem yke{k n:Nat}:∀(parts:List (Nat×LV)) (acc rows:List (List AV)),(∀row∈acc,row.length=k)->acc.length=n->Io k n acc parts=some rows->
    I2 (λi=>some (i*k,k)) acc.flatten parts=some rows.flatten/\(∀row∈rows,row.length=k)/\rows.length=n:=by
  intro parts;induction parts with
  |nil=>intro acc rows h1 h2 h;simp[Io]at h;subst h;trivial
  | cons p parts ih=>
    intro acc rows h1 h2 h;obtain⟨i,x⟩:=p;simp only[Io]at h;cases x with
    | av x=>
      simp only at h;cases hc:cellsOf x with
      |none=>grind
      | some xs=>
        rw[hc]at h;simp only at h;cases hb:(Nat.beq xs.length k&&Nat.blt i n)with
        |false=>grind
        | true=>
          rw[hb]at h;simp only[Fay]at hb;have hx:xs.length=k:=(ve _ _).1 hb.1;have hi:i<n:=Fbm hb.2;obtain⟨h3,h4,h5⟩:=ih (acc.set i xs) rows (λrow hr=>δ) δ h;have hfl:=D9 h1;have hle:(i+1)*k<=n*k:=Fa9 k hi;have hb2:(Nat.beq xs.length k&&Nat.ble (i*k+k) acc.flatten.length)=true:=by simp_all[Fcw]
          simp only[I2,hc,hb2,cond_true];grind[yn8]
    |_=>simp at h
theorem cz{w:World}{M Oth T':Nat->Nat->Prop}{rows:List (List AV)}{k:Nat}(hk:∀row∈rows,row.length=k){cs:Array Value}{e:TypeId}{cap:Nat}
    (hr:∀(i:Nat) (x:AV),rows.flatten[i]?=some x->∃v,cs[i]?=some v/\VRel w (λb o=>M b o\/Oth b o) x v/\qw v=true) (hcap:rows.length<=cap) (tok:Option Nat)
    (hT:Keeps w (λb o=>M b o\/Oth b o) (w.alloc (.cells cs e)) T') (hno:∀o,o<rows.length*k->¬T' w.heap.size o)
    (htok:∀t,tok=some t->t=w.heap.size/\rows≠[]/\cap*k<=cs.size):
    VRel (w.alloc (.cells cs e)) T' (.lst k rows tok) (.slice (some ⟨w.heap.size,0,none⟩) rows.length cap):=by
  have hlen:=D9 hk;have hlt:∀(i:Nat) (row:List AV) (j:Nat) (x:AV),rows[i]?=some row->row[j]?=some x->i*k+j<rows.length*k:=by intro i row j x h1 h2;have:=(Fa2.1 (Lh hk h1 h2)).1;omega
  refine VRel.lst rows tok w.heap.size 0 cap k (λj=>cs.getD j undef) hcap (λi row h=>hk row (Fba h)) (λt ht=>?_) (λi row j x h1 h2=>?_) (λi row j x h1 h2=>?_) (λi row j x h1 h2=>?_)
  · obtain⟨h1,h2,h3⟩:=htok t ht
    exact⟨h1,rfl,h2,cs,e,(0,0),Ix w _,h3⟩
  · obtain⟨v,hv,_⟩:=hr _ x (Lh hk h1 h2)
    simp_all
  · obtain⟨v,hv,_,hv1⟩:=hr _ x (Lh hk h1 h2)
    simp_all
  · obtain⟨v,hv,hvr,_⟩:=hr _ x (Lh hk h1 h2)
    have:cs.getD (i*k+j) undef=v:=by simp[hv]
    simp only[this];exact hvr.keep hT
theorem zcw(w:World)(o:Obj)(M Oth:Nat->Nat->Prop)(top:Nat):Keeps w (λb o=>M b o\/Oth b o) (w.alloc o) (λb o=>cj M w.heap.size top b o\/Oth b o) where
  cell:=(Hl w o M Oth).cell
  out b o' c hc hT hT':=by
    rcases hT' with(h|h)|h
    · grind
    · have:=Np hc;omega
    grind
  shp:=(Hl w o M Oth).shp
theorem yfo(z:Array Value)(n:Nat)(hz:0<z.size):((Array.range (n*z.size)).map (λi=>z[i%z.size]!)).toList=(List.replicate n z.toList).flatten:=by
  induction n with
  |zero=>simp
  | succ n ih=>
    rw[List.replicate_succ',Fd1,<-ih];simp only[Fck,Array.toList_range,Fcw,Nat.one_mul,List.range_add,Fax,List.map_map,Fea,List.flatten_nil,Fbn]
    congr 1
    apply Fb8;intro i;by_cases hi:i<z.size
    · simp[hi,Nat.mod_eq_of_lt hi]
    grind
theorem zgw{o:Oper}{t:TypeId}{n:Nat}{parts:Array (Nat×Operand)}(ho:o.op=.buildSlice t n parts)(hI:y9 P c.I)
    (h:optK (c.I t) λi=>optK o.dst λd=>bif Nat.blt d c.n then(match i.ty with
      | .slice e=>optK (c.I e) λie=>optK (Io ie.size n (List.replicate n (Cf ie)) (parts.toList.map λp=>(p.1,A.ev p.2))) λrows=>
        bif rows.flatten.all AV.one then n*ie.size<=16777216/\(match rows with
          |[]=>K (A.put d (.av .emp)) st
          | _ ::_=>bif c.G.contains d then(bif c.G.contains (d+1000000)then∀b,Fresh st b->K (A.put d (.av (.s (.slice (some ⟨b,0,none⟩) rows.length rows.length)))) (st.sO b (.cells rows.flatten))
              else∀b,Fresh st b->K (A.put d (.av (.lst ie.size rows (some b)))) (st.sT b (some (rows.length*ie.size))))
            else K (A.put d (.av (.lst ie.size rows none))) st)else False
      |_=>False)else False):AOp P c.N o K A st:=by
  obtain⟨i,hi,h⟩:=zr h;obtain⟨d,hd,h⟩:=zr h;obtain⟨hlt,h⟩:=Ax h;split at h
  · rename_i e hty
    obtain⟨ie,hie,h⟩:=zr h;replace h:=zr h;obtain⟨rows,hrows,h⟩:=h;cases hone:rows.flatten.all AV.one with
    |false=>grind
    |true=>
    rw[hone]at h;simp only[cond_true]at h;obtain⟨hroom,hK⟩:=h;rintro Oth M a w ⟨β,sim⟩;obtain⟨z,hz1,hz2⟩:=Mf (hI _ _ hie) w;have hzs:z.cells.size=ie.size:=by rw[<-(hI _ _ hie).zsz,<-hz2];simp
    obtain⟨hf1,hf2,hf3⟩:=yke _ _ rows (λrow hr=>by grind[Cf]) φ hrows
    let base:Array Value:=(Array.range (n*ie.size)).map (λi=>(if n*ie.size=0 then #[]else z.cells)[i%(if n*ie.size=0 then #[]else z.cells).size]!)
    have hbase:Reads w (λb o=>M b o\/Oth b o) (List.replicate n (Cf ie)).flatten base.toList:=by
      by_cases hn:n=0
      · subst hn
        grind[Reads.nil]
      · by_cases hs0:ie.size=0
        · have e1:base.toList=[]:=by simp[base,hs0]
          simp_all[Cf,Reads.nil]
        have hne:¬n*ie.size=0:=by grind[Nat.mul_eq_zero]
        have:base.toList=(List.replicate n z.cells.toList).flatten:=by simp only[base,hne,if_false];grind[yfo]
        rw[this,hz2];have e:(List.replicate n (Cf ie)).flatten=(List.replicate n ie.zero).flatten.map AV.s:=by simp_all[Cf]
        rw[e];exact Reads.map_s _
    have hparts:((parts.toList.map λp=>(p.1,A.ev p.2))).length=(parts.map λ(p:Nat×Operand)=>(p.1,a.eval p.2)).toList.length∧
        ∀(i:Nat) (p:Nat×LV) (v:Nat×Value),(parts.toList.map λp=>(p.1,A.ev p.2))[i]?=some p->(parts.map λ(p:Nat×Operand)=>(p.1,a.eval p.2)).toList[i]?=some v->p.1=v.1/\LRel w (λb o=>M b o\/Oth b o) β p.2 v.2:=by
      refine⟨φ,λi p v hp hv=>?_⟩;rw[Fck,Faq]at hv;rw[Faq]at hp;cases hq:parts.toList[i]? with
      |none=>grind
      | some q=>
        rw[hq]at hp hv;simp at hp hv;subst hp hv;exact⟨rfl,sim.ev _⟩
    obtain⟨ds,hds1,hds2⟩:=mw (β:=β) (place:=λi=>some (i*ie.size,ie.size)) _ _ _ base rows.flatten hparts.1 hparts.2 hbase hf1;have hrun:(execOp a.eval o).run P w=.ok (.value (.slice (some ⟨w.heap.size,0,none⟩) n n)) (w.alloc (.cells ds e)):=by
      have h1:¬n*ie.size>2^24:=θ;simp only[execOp,ho,Instr.buildSlice,Sem.run_bind,yn (ja (hI _ _ hi) hty),Result.andThen_ok,kh (hI _ _ hie),h1,if_false];by_cases hn0:n*ie.size=0
      · have h2:Instr.fill (λi=>some (i*ie.size,ie.size)) (Array.map (λx=>(#[]:Array Value)[x%(#[]:Array Value).size]!) (Array.range (n*ie.size))) (Array.map (λ(x:Nat×Operand)=>(x.1,a.eval x.2)) parts).toList=some ds:=by grind
        simp_all[newRow]
      · have h2:Instr.fill (λi=>some (i*ie.size,ie.size)) (Array.map (λx=>z.cells[x%z.cells.size]!) (Array.range (n*ie.size))) (Array.map (λ(x:Nat×Operand)=>(x.1,a.eval x.2)) parts).toList=some ds:=by grind
        simp_all[newRow]
    unfold Oper.wp;rw[hrun,Oper.upon_value,hd];have hlen:=D9 hf2;have hdsz:ds.size=n*ie.size:=by have:=hds2.1;grind
    have hread:∀(i:Nat) (x:AV),rows.flatten[i]?=some x->∃v,ds[i]?=some v/\VRel w (λb o=>M b o\/Oth b o) x v/\qw v=true:=λi x hx=>by obtain⟨v,hv,hvr⟩:=hds2.getElem? hx;grind[gq]
    have hnoT:∀o,¬(M w.heap.size o\/Oth w.heap.size o):=λo h=>by
      rcases h with h|h
      · have:=sim.sto.mlt _ _ h;omega
      · have:=sim.sto.olt _ _ h;omega
    subst hf3;cases rows with
    |nil=>exact⟨_,_,M,hK,⟨β,(sim.grow (Grow.alloc w _)).put hlt (x:=.av .emp) (VRel.emp _ (λx h=>δ))⟩,(Grow.alloc w _).chg M⟩
    | cons r rs=>
      cases hg:c.G.contains d with
      | true=>
        cases hg2:c.G.contains (d+1000000)with
        | true=>
          simp only[hg,hg2,cond_true]at hK;refine⟨_,_,_,hK w.heap.size (sim.sto.fresh (Fak _)),⟨β,(sim.newObj (.cells ds e) (.cells (r::rs).flatten) (Rg w e M Oth hds2)).put hlt (VRel.s _)⟩,I3 _ _ _⟩
        |false=>
        simp only[hg,hg2,cond_true,cond_false]at hK;refine⟨_,_,_,hK w.heap.size (sim.sto.fresh (Fak _)),⟨β,(sim.newTok ds e ((r::rs).length*ie.size) θ).put hlt ?_⟩,zfm _ _ _ _⟩;refine cz hf2 hread (Fak _) _ (zcw _ _ _ _ _) (λo ho hh=>?_) (λt ht=>?_)
        · rcases hh with(h|h)|h
          · grind
          · omega
          grind
        grind
      | false=>
        simp only[hg,cond_false]at hK;refine⟨_,_,M,hK,⟨β,(sim.grow (Grow.alloc w _)).put hlt ?_⟩,(Grow.alloc w _).chg M⟩;exact cz hf2 hread (Fak _) _ ((Grow.alloc w _).keeps _) (λo ho hh=>hnoT o hh) (λt ht=>by cases ht)
  grind
end
section
variable {P:Program} {c:Cfg} {K:Fr->Store->Prop} {A:Fr} {st:Store}
theorem yeg(n:Nat)(w:World):(askRoom n).run P w=.ok () w:=φ
theorem yef(need old e:Nat)(w:World):∃n,need<=n/\(need<=140737488355328->n<=9223372036854775807)/\(choose (.appendCap need old e)).run P w=.ok n w.drew:=by refine⟨need+w.tape w.drawn (.appendCap need old e)%(2^63-need),Nat.le_add_right _ _,λh=>?_,rfl⟩;have:=Nat.mod_lt (w.tape w.drawn (.appendCap need old e)) (show 0<2^63-need by omega);omega
structure AppArgs(P:Program)(c:Cfg)(argTypes:Array TypeId)(args:Array Value)(t e:TypeId)(ie:TI)(base:Option Addr)(sLen sCap:Nat)(xv:Value):Prop where
  ht:argTypes[0]?=some t
  ht1:∃t1 e1,argTypes[1]?=some t1/\P.underlying t1=some (.slice e1)
  hty:P.underlying t=some (.slice e)
  hie:TIok P e ie
  h0:args[0]?=some (.slice base sLen sCap)
  h1:args[1]?=some xv
theorem Lo{argTypes:Array TypeId}{args:Array Value}{t e:TypeId}{ie:TI}{base:Option Addr}{sLen sCap n:Nat}{xv:Value}(ty:TypeId)(h:AppArgs P c argTypes args t e ie base sLen sCap xv){w:World}{old new:Array Value}
    (hlen:(Builtin.lenOf xv).run P w=.ok n w) (hnew:(Builtin.firstCells ie.size n xv).run P w.drew=.ok new w.drew) (hold:(Builtin.firstCells ie.size sLen (.slice base sLen sCap)).run P w.drew=.ok old w.drew)
    (hneed:sCap<sLen+n) (hroom:room (sLen+n) ie.bytes):
    ∃ newCap rest,sLen+n<=newCap/\newCap<=9223372036854775807/\rest.size=(newCap-(sLen+n))*ie.size∧
      (Builtin.append_ argTypes ty args).run P w=.ok (.slice (some ⟨w.heap.size,0,none⟩) (sLen+n) newCap) (w.drew.alloc (.cells (old++new++rest) e)):=by
  obtain⟨newCap,hcap,hcap2,hch⟩:=yef (P:=P) (sLen+n) sCap e w;obtain⟨z,hz1,hz2⟩:=Mf h.hie w.drew;obtain⟨t1,e1,ht1,hu1⟩:=h.ht1;obtain⟨inf,hinf,hsz,hby,_⟩:=h.hie.info;have hzs:z.cells.size=ie.size:=by rw[<-h.hie.zsz,<-hz2];simp
  refine⟨newCap,Builtin.zeroCells z.cells (newCap-(sLen+n)),hcap,hcap2 hroom.2,by simp[Builtin.zeroCells,hzs],?_⟩;obtain⟨hr1,hr2⟩:=hroom;have hc1:¬(sLen+n<=sCap):=θ;have hc2:¬(((sLen+n:Nat):Int)>IntKind.i64.max):=by grind[IntKind.max,IntKind.bits]
  have hc3:¬(Builtin.nextslicecap (sLen+n) sCap*ie.bytes>2^48):=by have h1:=nextslicecap_le hneed;have h2:Builtin.nextslicecap (sLen+n) sCap*ie.bytes<=2*(sLen+n)*ie.bytes:=Fa9 _ h1;grind
  have hti:∀w:World,(typeInfo e).run P w=.ok inf w:=λw=>by simp[typeInfo,hinf]
  simp only[Builtin.append_,h.ht,h.h0,h.h1,Sem.run_bind,yn h.hty,Result.andThen_ok,kh h.hie,ht1,yn hu1,Sem.run_pure];simp only[Fah,if_false,hlen,Result.andThen_ok,hc1,hc2,false_and,Sem.run_bind,hti,hby,hc3,hch,yeg,hold,hnew,Bool.not_false,if_true,hz1];rfl
theorem Nw{argTypes:Array TypeId}{args:Array Value}{t e:TypeId}{ie:TI}{base:Option Addr}{sLen sCap n:Nat}{xv:Value}(ty:TypeId)(h:AppArgs P c argTypes args t e ie base sLen sCap xv){w w':World}{new:Array Value}
    (hlen:(Builtin.lenOf xv).run P w=.ok n w) (hnew:(Builtin.firstCells ie.size n xv).run P w=.ok new w)
    (hneed:sLen+n<=sCap) (hst:∀a,base=some a->(storeCells (a.add (sLen*ie.size)) new.toList).run P w=.ok () w') (hno:base=none->w'=w):
    (Builtin.append_ argTypes ty args).run P w=.ok (.slice base (sLen+n) sCap) w':=by
  obtain⟨t1,e1,ht1,hu1⟩:=h.ht1;simp only[Builtin.append_,h.ht,h.h0,h.h1,Sem.run_bind,yn h.hty,Result.andThen_ok,kh h.hie,ht1,yn hu1,Sem.run_pure];cases base with
  |none=>simp_all
  |some a=>simp_all
theorem Wz{α:Type}{k:Nat}:∀{rows:List (List α)} (_:∀row∈rows,row.length=k) {p:Nat} {x:α},rows.flatten[p]?=some x->∃(i j:Nat) (row:List α),p=i*k+j/\rows[i]?=some row/\row[j]?=some x:=by
  intro rows;induction rows with
  |nil=>simp
  | cons r rows ih=>
    intro hk p x h;simp only[Fea]at h;by_cases hp:p<r.length
    · rw[Fau hp]at h
      exact⟨0,p,r,θ,rfl,h⟩
    · rw[Fa0 θ]at h
      obtain⟨i,j,row,h1,h2,h3⟩:=ih (λrow h=>hk row (by simp[h])) h;exact⟨i+1,j,row,δ,δ,h3⟩
theorem ls{w w':World}(h:w'.heap=w.heap)(a:Addr):w'.cell? a=w.cell? a:=by simp only[World.cell?,h]
theorem Ma{w:World}{T:Nat->Nat->Prop}{β:Nat->Nat}{k:Nat}{x:LV}{xv:Value}{rows:List (List AV)}(hx:LRel w T β x xv)(h:Ab k x=some rows):
    (Builtin.lenOf xv).run P w=.ok rows.length w/\(∀row∈rows,row.length=k)∧
      ∃new:Array Value,Reads w T rows.flatten new.toList/\(∀v∈new.toList,qw v=true)/\new.size=rows.length*k/\∀w',w'.heap=w.heap->(Builtin.firstCells k rows.length xv).run P w'=.ok new w':=by
  unfold Ab at h;split at h
  · rename_i k' rows' tok
    cases hb:Nat.beq k' k with
    |false=>grind
    | true=>
      rw[hb]at h;simp only[cond_true,Faf]at h;subst h;obtain rfl:=(ve _ _).1 hb;rcases N9 hx with⟨ad,cap,hv,h2,_,rfl⟩|⟨b,off,cap,hv,hcap,hk,f,hf⟩
      · subst h2
        exact⟨θ6,φ,#[],Reads.nil,φ,φ,λw' _=>by cases ad<;>simp[hv,Builtin.firstCells,loadCells,loadCellsFrom]⟩
      · have hk':∀row∈rows',row.length=k':=λrow hr=>by grind[List.mem_iff_getElem?]
        refine⟨θ6,hk',((List.range' 0 (rows'.length*k')).map f).toArray,⟨?_,?_⟩,λv hv=>?_,φ,λw' hw=>?_⟩
        · rw[D9 hk'];simp
        · intro p x y hp hy
          obtain⟨i,j,row,h1,h2,h3⟩:=Wz hk' hp;grind
        · simp only[Fai]at hv
          obtain⟨p,hp,rfl⟩:=hv;have hlt:p<rows'.flatten.length:=by rw[D9 hk'];grind
          obtain⟨i,j,row,h1,h2,h3⟩:=Wz hk' (Fac hlt);grind
        · have:=Mg (P:=P) ⟨b,off,none⟩ w' f (rows'.length*k') 0 #[] (λp _ hp=>by
            rw[wx,ls hw];have hlt:p<rows'.flatten.length:=by rw[D9 hk'];omega
            obtain⟨i,j,row,h1,h2,h3⟩:=Wz hk' (Fac hlt);grind)
          grind[Builtin.firstCells,loadCells]
  · simp at h
    subst h;have hv:xv=.slice none 0 _:=VRel.eq_s hx;exact⟨θ6,φ,#[],Reads.nil,φ,φ,λw' _=>by simp[hv,Builtin.firstCells]⟩
  · simp at h
    subst h;have hv:∃a,xv=.slice a 0 0:=by
      cases hx with
      |emp a h=>simp
    obtain⟨a,hv⟩:=hv;refine⟨θ6,φ,#[],Reads.nil,φ,φ,λw' _=>?_⟩;cases a with
    |none=>simp[hv,Builtin.firstCells]
    |some a=>simp[hv,Builtin.firstCells,loadCells,loadCellsFrom]
  · cases h
theorem Owned.nil(k:Nat)(st:Store):Owned k st .emp [] st:=.inl ⟨rfl,rfl,rfl⟩
theorem SimB.appendNew{n:SN}{Oth M:Nat->Nat->Prop}{β:Nat->Nat}{a:Act}{w:World}(sim:SimB n Oth β A st M a w){rows:List (List AV)}{k:Nat}(hk:∀row∈rows,row.length=k)(hne:rows≠[])
    {cs:Array Value} {e:TypeId} {cap:Nat} (hr:∀(i:Nat) (x:AV),rows.flatten[i]?=some x->∃v,cs[i]?=some v/\VRel w (λb o=>M b o\/Oth b o) x v/\qw v=true) (hcap:rows.length<=cap) (hsz:cap*k<=cs.size):
    ∃ st' M',Owned k st (.lst k rows (some w.heap.size)) rows st'/\SimB n Oth β A st' M' a (w.drew.alloc (.cells cs e))/\Chg M w M' (w.drew.alloc (.cells cs e))∧
      VRel (w.drew.alloc (.cells cs e)) (λb o=>M' b o\/Oth b o) (.lst k rows (some w.heap.size)) (.slice (some ⟨w.heap.size,0,none⟩) rows.length cap):=by
  have hle:rows.length*k<=cap*k:=Fa9 k hcap;refine⟨_,_,.inr ⟨hne,w.heap.size,sim.sto.fresh (Fak _),rfl,rfl⟩,(sim.grow (Grow.drew w)).newTok cs e (rows.length*k) θ,((Grow.drew w).chg M).trans (zfm w.drew _ M _),?_⟩;refine cz hk (λi x hx=>?_) hcap _ (zcw w.drew _ _ _ _) (λo ho hh=>?_) (λt ht=>?_)
  · obtain⟨v,h1,h2,h3⟩:=hr i x hx
    exact⟨v,h1,h2.keep ((Grow.drew w).keeps _),h3⟩
  · rcases hh with(h|h)|h
    · have:=sim.sto.mlt _ _ h;simp_all
    · omega
    · have:=sim.sto.olt _ _ h;simp_all
  simp_all
theorem getElem?_append3{old new rest:Array Value}{i:Nat}{v:Value}(h:(old.toList++new.toList)[i]?=some v):(old++new++rest)[i]?=some v:=δ
theorem zic{w:World}{T:Nat->Nat->Prop}{k:Nat}{rows:List (List AV)}{b:Nat}{base:Option Addr}{sLen sCap:Nat}(h:VRel w T (.lst k rows (some b)) (.slice base sLen sCap)):
    base=some ⟨b,0,none⟩/\sLen=rows.length/\rows.length<=sCap/\rows≠[]/\(∀row∈rows,row.length=k)/\(∃c e fr,w.heap[b]?=some (.cells c e fr)/\sCap*k<=c.size)/\∃f:Nat->Value,
      (∀(i:Nat) (row:List AV) (j:Nat) (x:AV),rows[i]?=some row->row[j]?=some x->w.cell? ⟨b,i*k+j,none⟩=some (f (i*k+j))/\¬T b (i*k+j)/\VRel w T x (f (i*k+j))/\qw (f (i*k+j))=true):=by
  cases h with
  | lst _ _ b' off cap _ f hcap hk htok hc h0 hx=>
    obtain⟨rfl,rfl,h1,h2⟩:=htok b rfl;refine⟨rfl,rfl,hcap,h1,λrow hr=>?_,h2,f,λi row j x h3 h4=>?_⟩
    · grind[List.mem_iff_getElem?]
    grind
theorem pd{n:SN}{Oth M:Nat->Nat->Prop}{β:Nat->Nat}{a:Act}{w:World}(sim:SimB n Oth β A st M a w){argTypes:Array TypeId}{args:Array Value}{t e:TypeId}{ie:TI}{base:Option Addr}{sLen sCap:Nat}{xv:Value}(ty:TypeId)
    (h:AppArgs P c argTypes args t e ie base sLen sCap xv) {x:LV} (hx:LRel w (λb o=>M b o\/Oth b o) β x xv) {rows':List (List AV)} (hs:Ab ie.size x=some rows'):
    ((sLen=0/\sCap=0/\∀x,base=some x->x.spot=none)->room rows'.length ie.bytes->∃v w' r st' M',(Builtin.append_ argTypes ty args).run P w=.ok v w'/\Owned ie.size st r rows' st'/\SimB n Oth β A st' M' a w'/\Chg M w M' w'/\VRel w' (λb o=>M' b o\/Oth b o) r v)∧
    (∀rows b,0<ie.size->VRel w (λb o=>M b o\/Oth b o) (.lst ie.size rows (some b)) (.slice base sLen sCap)->st.tok b=some (rows.length*ie.size)->room (rows++rows').length ie.bytes->
      ∃v w' r st' M',(Builtin.append_ argTypes ty args).run P w=.ok v w'/\Owned ie.size (st.sT b none) r (rows++rows') st'/\SimB n Oth β A st' M' a w'/\Chg M w M' w'/\VRel w' (λb o=>M' b o\/Oth b o) r v):=by
  obtain⟨hlen,hk',new,hnr,hone,hns,hnew⟩:=Ma (P:=P) hx hs;constructor
  · rintro⟨rfl,rfl,hspot⟩ hroom
    by_cases hn:rows'=[]
    · subst hn
      refine⟨_,w,.emp,st,M,Nw ty h (w':=w) hlen (hnew w rfl) φ (λa ha=>?_) (λ_=>rfl),Owned.nil _ _,sim,Chg.refl M w,VRel.emp _ hspot⟩;simp_all[storeCells]
    · have hpos:0<rows'.length:=List.length_pos_iff.2 hn
      obtain⟨newCap,rest,h1,_,h2,h3⟩:=Lo ty h (old:=#[]) hlen (hnew w.drew rfl) (by cases base<;>simp[Builtin.firstCells,loadCells,loadCellsFrom]) θ (by simpa using hroom);simp only[Fbi]at h1 h2 h3;obtain⟨st',M',ho,hsim,hchg,hv⟩:=sim.appendNew (cs:=#[]++new++rest) (e:=e) (cap:=newCap) hk' hn (λi x hx=>by obtain⟨v,hv,hvr⟩:=hnr.getElem? hx;grind) h1 (by grind[Nat.sub_mul]);grind
  · intro rows b hpos hsv htb hroom
    obtain⟨rfl,rfl,hcap,hne,hk,⟨c0,e0,fr0,hblk,hcsz⟩,f,hf⟩:=zic hsv;have hkk:∀row∈rows++rows',row.length=ie.size:=λrow hr=>δ;obtain⟨c1,e1,fr1,hb1,hunf,htop,hMtop⟩:=sim.sto.tok b _ htb;rw[hblk]at hb1;cases hb1
    -- the first cell
    have hfirst:¬M b 0:=by
      cases rows with
      |nil=>grind
      | cons r rs=>
        have hr:r.length=ie.size:=hk r φ;cases r with
        |nil=>grind
        | cons y ys=>
          have:=(hf 0 (y::ys) 0 y rfl rfl).2.1;grind
    have hold:∀p,p<rows.length*ie.size->w.cell? ⟨b,p,none⟩=some (f p)/\¬(M b p\/Oth b p)/\qw (f p)=true/\∀x,rows.flatten[p]?=some x->VRel w (λb o=>M b o\/Oth b o) x (f p):=λp hp=>by
      have hlt:p<rows.flatten.length:=by rw[D9 hk];omega
      obtain⟨i,j,row,h1,h2,h3⟩:=Wz hk (Fac hlt);grind
    have holdR:Reads w (λb o=>M b o\/Oth b o) rows.flatten ((List.range' 0 (rows.length*ie.size)).map f):=by refine⟨by rw[D9 hk];simp,λp x y hp hy=>?_⟩;grind
    by_cases hstay:rows.length+rows'.length<=sCap
    · have hle:(rows.length+rows'.length)*ie.size<=sCap*ie.size:=Fa9 _ hstay
      have hdist:(rows.length+rows'.length)*ie.size=rows.length*ie.size+rows'.length*ie.size:=Fcw _ _ _;have h9:new.toList.length=rows'.length*ie.size:=θ;have h10:rows.length*ie.size+0+new.toList.length<=c0.size:=θ;obtain⟨w',hrun,hw⟩:=Kq (P:=P) w b (rows.length*ie.size) new.toList 0 w c0 e0 fr0 hblk hunf h10 hone;simp only[Nat.add_zero]at hw;have happ:=Nw (P:=P) ty h (w':=w') hlen (hnew w rfl) hstay (λa ha=>by cases ha;rw[wx];grind) (λhh=>by cases hh)
      let M':Nat->Nat->Prop:=λb' o=>M b' o/\¬(b'=b/\o<(rows.length+rows'.length)*ie.size)
      obtain⟨c',hblk',hl',hs'⟩:=hw.blk _ _ _ hblk;have hcellb:∀o,o<rows.length*ie.size->w'.cell? ⟨b,o,none⟩=w.cell? ⟨b,o,none⟩:=λo ho=>by simp only[World.cell?,hblk',hblk];rw[<-Fc7,hl',Fao,Fau δ,Fd5];simp[ho]
      have hcelln:∀j v,new[j]?=some v->w'.cell? ⟨b,rows.length*ie.size+j,none⟩=some v:=λj v hv=>by have hj:=(Fbq.1 hv).1;simp only[World.cell?,hblk'];have hm:min (rows.length*ie.size) c0.size=rows.length*ie.size:=θ;have:c'.toList[rows.length*ie.size+j]?=some v:=δ;grind
      have hkeep:Keeps w (λb o=>M b o\/Oth b o) w' (λb o=>M' b o\/Oth b o):=
        { cell:=λb' o' v hv hT=>by
            by_cases he:b'=b
            · grind
            · rw[F6 (hw.other b' he)]
              exact hv
          out:=λb' o' v hv hT hT'=>hT (hT'.imp (λh=>h.1) id)
          shp:=λb' c e fr hc=>by
            by_cases he:b'=b
            · grind
            · exact⟨c,fr,by rw[hw.other b' he];exact hc,rfl⟩}
      have hobjb:st.obj b=none:=by
        cases ho:st.obj b with
        |none=>rfl
        |some x=>exact absurd ((sim.sto.obj b x ho).2 0) hfirst
      have hbxb:∀k l,A.bx k=some l->β k≠b:=λk l hl=>sim.sep k b δ (.inr δ)
      have hsim:SimB n Oth β A ((st.sT b none).sT b (some ((rows++rows').length*ie.size))) M' a w':=
        { tsz:=sim.tsz
          dfr:=sim.dfr.step λD _ _ h2=>⟨hw.other D λe=>(h2 _).1 (e▸hMtop _ (Fak _)),λo hm=>(h2 o).1 hm.1⟩
          tm:=λi=>(sim.tm i).keep hkeep
          bx:=λk l hl=>⟨(sim.bx k l hl).1.same hkeep (hw.other _ (hbxb k l hl)),λo=>⟨(sim.bx k l hl).2 o,λhh=>hbxb k l hl hh.1⟩⟩
          inj:=sim.inj
          sep:=λk b' hk hb=>by
            refine sim.sep k b' hk ?_;by_cases he:b'=b
            · grind
            simp_all[Store.sT,qe]
          sto:=
            { obj:=λb' x hx=>by
                have hx':st.obj b'=some x:=hx;have he:b'≠b:=λe=>δ;exact⟨ObjRel.same (sim.sto.obj b' x hx').1 hkeep (hw.other b' he),λo=>⟨(sim.sto.obj b' x hx').2 o,λhh=>he hh.1⟩⟩
              tok:=λb' top ht=>by
                by_cases he:b'=b
                · subst he
                  simp only[Store.sT,Fbr,cond_true,Faf]at ht;grind
                · simp only[Store.sT,qe he,cond_false]at ht
                  obtain⟨c,e,fr,h1,h2,h3,h4⟩:=sim.sto.tok b' top ht;exact⟨c,e,fr,θ5,h2,h3,λo ho=>⟨h4 o ho,λhh=>he hh.1⟩⟩
              mlt:=λb' o hm=>by rw[hw.size];exact sim.sto.mlt b' o hm.1
              olt:=λb' o hm=>by rw[hw.size];exact sim.sto.olt b' o hm
              dis:=λb' o hO hM=>sim.sto.dis b' o hO hM.1}}
      have hchg:Chg M w M' w':=
        { size:=by rw[hw.size];simp
          keep:=λb' o hb hm=>by
            by_cases he:b'=b
            · grind
            · exact F6 (hw.other b' he) o
          blk:=λb' hb hm=>hw.other b' λe=>hm (rows.length*ie.size) δ
          shp:=hkeep.shp
          sub:=λb' o hm _=>hm.1
          tape:=hw.tape
          os:=hw.os
          output:=hw.output}
      refine⟨_,w',.lst ie.size (rows++rows') (some b),_,M',happ,.inr ⟨by simp[hne],b,⟨hobjb,by simp[Store.sT]⟩,rfl,rfl⟩,hsim,hchg,?_⟩;rw[<-Fad];have hget:∀p x,(rows++rows').flatten[p]?=some x->∃v,w'.cell? ⟨b,p,none⟩=some v/\¬(M' b p\/Oth b p)/\qw v=true/\VRel w' (λb o=>M' b o\/Oth b o) x v:=λp x hp=>by
        rw[Fd1]at hp;by_cases hlt:p<rows.length*ie.size
        · rw[Fau (by rw[D9 hk];exact hlt)]at hp
          obtain⟨h1,h2,h4,h3⟩:=hold p hlt;exact⟨f p,δ,λhh=>h2 (hh.imp (λh=>h.1) id),h4,(h3 x hp).keep hkeep⟩
        · rw[Fa0 (by rw[D9 hk];omega),D9 hk]at hp
          obtain⟨v,hv,hvr⟩:=hnr.getElem? hp;have hpl:=(Fa2.1 hp).1;rw[D9 hk']at hpl;have:=hcelln _ v (by simpa using hv);have e:rows.length*ie.size+(p-rows.length*ie.size)=p:=θ;rw[e]at this;refine⟨v,this,λhh=>?_,hone v (Fba hv),hvr.keep hkeep⟩;rcases hh with hh|hh
          · exact hh.2 ⟨rfl,θ⟩
          · exact sim.sto.dis b p hh (hMtop p θ)
      have hlt2:∀(i:Nat) (row:List AV) (j:Nat) (x:AV),(rows++rows')[i]?=some row->row[j]?=some x->(rows++rows').flatten[i*ie.size+j]?=some x:=λi row j x h1 h2=>Lh hkk h1 h2;refine VRel.lst _ _ b 0 sCap ie.size (λj=>(w'.cell? ⟨b,j,none⟩).getD undef) (by rw[Fad];exact hstay) (λi row hr=>hkk row (Fba hr)) (λt ht=>?_) (λi row j x h1 h2=>?_) (λi row j x h1 h2=>?_) (λi row j x h1 h2=>?_)
      · cases ht;exact⟨rfl,rfl,by simp[hne],c',e0,fr0,hblk',by rw[hs'];exact hcsz⟩
      · obtain⟨v,h3,h4,h6,h5⟩:=hget _ x (hlt2 i row j x h1 h2)
        simp only[Fbi,h3,Option.getD_some];exact⟨Tv,h4⟩
      · obtain⟨v,h3,h4,h6,h5⟩:=hget _ x (hlt2 i row j x h1 h2)
        simp only[h3,Option.getD_some];exact h6
      grind
    · have hold2:(Builtin.firstCells ie.size rows.length (.slice (some ⟨b,0,none⟩) rows.length sCap)).run P w.drew=.ok (((List.range' 0 (rows.length*ie.size)).map f).toArray) w.drew:=by
        have:=Mg (P:=P) ⟨b,0,none⟩ w.drew f (rows.length*ie.size) 0 #[] (λp _ hp=>by rw[wx,Fbi];exact(hold p θ).1);simp only[Builtin.firstCells,loadCells];simpa using this
      obtain⟨newCap,rest,h1,_,h2,h3⟩:=Lo ty h hlen (hnew w.drew rfl) hold2 θ (by simpa using hroom)
      have htokless:SimB n Oth β A (st.sT b none) M a w:=
        { sim with
          sep:=λk b' hk hb=>sim.sep k b' hk (hb.imp id λh=>by
            by_cases he:b'=b
            · subst he;rw[htb];simp
            · simpa [Store.sT,qe he]using h)
          sto:=sim.sto.weaken ⟨λ_ _ h=>h,λb' x hx=>by
            by_cases he:b'=b
            · subst he;simp[Store.sT]at hx
            · simpa [Store.sT,qe he]using hx⟩}
      obtain⟨st',M',ho,hsim,hchg,hv⟩:=htokless.appendNew (cs:=((List.range' 0 (rows.length*ie.size)).map f).toArray++new++rest) (e:=e) (cap:=newCap) hkk (by simp[hne]) (λi x hx=>by
        rw[Fd1]at hx;obtain⟨v,hv,hvr⟩:=(holdR.append hnr).getElem? hx;refine⟨v,getElem?_append3 (by simpa using hv),hvr,?_⟩;rcases Fat.1 (Fba hv)with hm|hm
        · simp only[Fai]at hm
          obtain⟨p,hp,rfl⟩:=hm;exact(hold p (by simpa using hp)).2.2.1
        · exact hone v hm) (by rw[Fad];exact h1) (by simp only[Array.size_append,hns,h2,List.size_toArray,Fap,List.length_range'];rw[Nat.sub_mul,<-Fcw];omega)
      rw[Fad]at hv;exact⟨_,_,_,st',M',h3,ho,hsim,hchg,hv⟩
end
section
variable {P:Program} {c:Cfg} {K:Fr->Store->Prop} {A:Fr} {st:Store} {Oth M:Nat->Nat->Prop}
theorem Ho{w:World}{b:Nat}{cs:Array Value}{e:TypeId}{fr:Nat×Nat}(h:w.heap[b]?=some (.cells cs e fr))(hf:Fi fr cs.size):
    ∃fr',Fi fr' cs.size/\(w.freeze ⟨b,cs.size,none⟩ 1).heap[b]?=some (.cells cs e fr')/\∀i,i≠b->(w.freeze ⟨b,cs.size,none⟩ 1).heap[i]?=w.heap[i]?:=by
  obtain⟨lo,hi⟩:=fr;refine⟨if lo==hi then(cs.size,cs.size+1)else(min lo cs.size,max hi (cs.size+1)),?_,?_,λi hi=>?_⟩
  · grind[Fi]
  · simp_all[World.freeze,Fcv]
  simp_all[World.freeze,Fcv,Ne.symm]
theorem zdu{w:World}{b:Nat}{cs:Array Value}{e:TypeId}{fr:Nat×Nat}(h:w.heap[b]?=some (.cells cs e fr))(hf:Fi fr cs.size)(b' o:Nat):
    (w.freeze ⟨b,cs.size,none⟩ 1).cell? ⟨b',o,none⟩=w.cell? ⟨b',o,none⟩:=by grind[Ho,World.cell?]
theorem mj(w:World)(a:Addr)(n:Nat):(w.freeze a n).heap.size=w.heap.size:=by grind[World.freeze]
theorem M8{w:World}{b:Nat}{cs:Array Value}{e:TypeId}{fr:Nat×Nat}(h:w.heap[b]?=some (.cells cs e fr))(hf:Fi fr cs.size)(T:Nat->Nat->Prop):
    Keeps w T (w.freeze ⟨b,cs.size,none⟩ 1) T where
  cell b' o x hc _:=by rw[zdu h hf];exact hc
  out _ _ _ _ hT:=hT
  shp b' c' e' f' hw:=by obtain⟨fr',_,h2,h3⟩:=Ho h hf;grind
theorem zdt{w:World}{b:Nat}{cs:Array Value}{e:TypeId}{fr:Nat×Nat}(h:w.heap[b]?=some (.cells cs e fr))(hf:Fi fr cs.size){T:Nat->Nat->Prop}{l:List AV}{b':Nat}(hb:b'≠b)(hr:CellsRel w T l b'):
    CellsRel (w.freeze ⟨b,cs.size,none⟩ 1) T l b':=by
  obtain⟨fr',h1,h2,h3⟩:=Ho h hf;obtain⟨c',e',f',h4,h5,h6,h7⟩:=hr;exact⟨c',e',f',δ,h5,h6,λi x y hx hy=>(h7 i x y hx hy).keep (M8 h hf T)⟩
theorem SimB.freeze{n:SN}{β:Nat->Nat}{a:Act}{w:World}(s:SimB n Oth β A st M a w){b:Nat}{cs:Array Value}{e:TypeId}{fr:Nat×Nat}(h:w.heap[b]?=some (.cells cs e fr))(hf:Fi fr cs.size)(hno:∃o,¬M b o):
    SimB n Oth β A st M a (w.freeze ⟨b,cs.size,none⟩ 1) where
  tsz:=s.tsz
  dfr:=s.dfr.step λD hD _ h2=>by grind[Ho]
  tm i:=(s.tm i).keep (M8 h hf _)
  bx k l hk:=⟨zdt h hf (λe=>by obtain⟨o,ho⟩:=hno;exact ho (e▸(s.bx k l hk).2 o)) (s.bx k l hk).1,(s.bx k l hk).2⟩
  inj:=s.inj
  sep:=s.sep
  sto:=
    { obj:=λb' x hx=>by
        refine⟨?_,(s.sto.obj b' x hx).2⟩;have hr:=(s.sto.obj b' x hx).1;cases x with
        |cells l=>exact zdt h hf (λe=>by obtain⟨o,ho⟩:=hno;exact ho (e▸(s.sto.obj b' _ hx).2 o)) hr
        | ghost o gh=>
          obtain⟨⟨h1,hc⟩,h2⟩:=hr;have hb:b'≠b:=λhh=>by subst hh;rw[h]at h1;cases h1;cases hc
          obtain⟨fr',_,_,h6⟩:=Ho h hf;exact⟨⟨δ,hc⟩,λp hp=>(h2 p hp).keep (M8 h hf _)⟩
        | iter m since seen last=>
          have h1:w.heap[b']?=_:=hr;obtain⟨fr',_,_,h6⟩:=Ho h hf;show _=_;grind
        | map es bs clock=>
          obtain⟨ms,h1,h2,h3,h4⟩:=hr;obtain⟨fr',_,_,h6⟩:=Ho h hf;exact⟨ms,δ,h2,λi x y hx hy=>⟨(h3 i x y hx hy).1.keep (M8 h hf _),(h3 i x y hx hy).2.keep (M8 h hf _)⟩,h4⟩
      tok:=λb' top ht=>by obtain⟨c',e',f',h1,h2,h3⟩:=s.sto.tok b' top ht;grind[Ho]
      mlt:=λb' o hm=>by rw[mj];exact s.sto.mlt b' o hm
      olt:=λb' o hm=>by rw[mj];exact s.sto.olt b' o hm
      dis:=s.sto.dis}
theorem yq2{w:World}{b:Nat}{cs:Array Value}{e:TypeId}{fr:Nat×Nat}(h:w.heap[b]?=some (.cells cs e fr))(hf:Fi fr cs.size)(hM:∃o,M b o):Chg M w M (w.freeze ⟨b,cs.size,none⟩ 1) where
  size:=by rw[mj];simp
  keep b' o _ _:=zdu h hf b' o
  blk b' _ hno:=by grind[Ho]
  shp b' c' e' f' hw:=(M8 h hf (λ_ _=>False)).shp b' c' e' f' hw
  sub _ _ h _:=h
  tape:=ξ
  os:=ξ
  output:=ξ
theorem ysj{o:Oper}{s t:TypeId}{x:Operand}(ho:o.op=.convert s t x)(hI:y9 P c.I)(h:bf P c o s t x K A st):AOp P c.N o K A st:=by
  unfold bf at h;split at h
  · rename_i k rows b hx
    cases hb:Nat.beq s t with
    |false=>grind
    |true=>
    rw[hb]at h;obtain rfl:=(ve _ _).1 hb;obtain⟨i,hi,h⟩:=zr h;split at h
    · rename_i e hty
      obtain⟨ie,hie,h⟩:=zr h;cases hu8:(lm ie.ty&&Nat.beq k 1)with
      |false=>grind
      |true=>
      rw[hu8]at h;obtain⟨top,htop,h⟩:=zr h;obtain⟨hu8,hk1⟩:=Fbj.1 hu8;have hk1:=(ve _ _).1 hk1;have hiety:ie.ty=.int .u8:=by grind[lm]
      rintro Oth M a w ⟨β,sim⟩;obtain⟨cs,e',fr,h1,h2,h3,h4⟩:=sim.sto.tok b top htop;have hv:∃n cap,a.eval x=.slice (some ⟨b,0,none⟩) n cap/\∃o,¬M b o:=by
        have hr:=qk sim.env hx;generalize a.eval x=v at hr;cases hr with
        | lst _ _ b' off cap _ f hcap hk htok hc h0 hx'=>
          obtain⟨rfl,rfl,hne,_⟩:=htok b rfl;refine⟨_,_,rfl,?_⟩;cases rows with
          |nil=>grind
          | cons r rs=>
            have hr1:=hk 0 r rfl;cases r with
            |nil=>grind
            |cons y ys=>exact⟨_,λhm=>(hc 0 _ 0 y rfl rfl).2 (.inl hm)⟩
      obtain⟨n,cap,hv,hnoM⟩:=hv;have hsh:w.shape? b=some (e',cs.size):=by simp[World.shape?,h1]
      have hrun:(execOp a.eval o).run P w=.ok (.value (a.eval x)) (w.freeze ⟨b,cs.size,none⟩ 1):=by simp[execOp,ho,hv,convert,yn (ja (hI _ _ hi) hty),yn (L4 (hI _ _ hie) hiety),markStringish,hsh]
      have sim':=sim.freeze h1 h2 hnoM;unfold Oper.wp;rw[hrun,Oper.upon_value];have hvr:LRel (w.freeze ⟨b,cs.size,none⟩ 1) (λb o=>M b o\/Oth b o) β (.av (.lst k rows (some b))) (a.eval x):=by have:=sim'.ev x;grind
      have hchg:Chg M w M (w.freeze ⟨b,cs.size,none⟩ 1):=yq2 h1 h2 ⟨top,h4 top (Fak _)⟩;cases hd:o.dst with
      |none=>rw[hd]at h;exact⟨A,st,M,h,⟨β,sim'⟩,hchg⟩
      | some d=>
        rw[hd]at h;obtain⟨hlt,h⟩:=Ax h;exact⟨_,st,M,h,⟨β,sim'.put hlt hvr⟩,hchg⟩
    grind
  · exact cg hI h
  · exact cg hI h
  grind[Rn]
end
section
variable {P:Program} {c:Cfg} {K:Fr->Store->Prop} {A:Fr} {st:Store}
theorem ysn{o:Oper}{cl:Call}(ho:o.op=.call cl)(hcl:cl.callee=.builtin .append)(hI:y9 P c.I)
    (h:optK cl.argTypes[0]? λt=>optK (c.I t) λi=>optK cl.args[0]? λs=>optK cl.args[1]? λx=>match i.ty with
      |.slice e=>bif (cl.argTypes[1]?.bind c.I).any Ol then
          appendK P c st e (A.ev s) (A.ev x) λr st'=>xf A c.n o.dst (.av r) λA'=>K A' st' else vcX P c o K A st
      |_=>False):AOp P c.N o K A st:=by
  obtain⟨t,ht,h⟩:=zr h;obtain⟨i,hi,h⟩:=zr h;obtain⟨s,hs,h⟩:=zr h;obtain⟨x,hx,h⟩:=zr h;split at h
  · rename_i e hty
    cases hb:(cl.argTypes[1]?.bind c.I).any Ol with
    |false=>rw[hb]at h;exact cg hI h
    |true=>
    rw[hb]at h;simp only[cond_true]at h;replace h:=h.out;rintro Oth M a w ⟨β,sim⟩;have ht1:∃t1 e1,cl.argTypes[1]?=some t1/\P.underlying t1=some (.slice e1):=by
      cases h1:cl.argTypes[1]? with
      |none=>grind
      | some t1=>
        rw[h1]at hb;simp only[Option.bind_some]at hb;cases h2:c.I t1 with
        |none=>grind
        | some j=>
          rw[h2]at hb;simp only[Option.any_some]at hb;unfold Ol at hb;split at hb
          · rename_i e1 h3;exact⟨t1,e1,rfl,ja (hI _ _ h2) h3⟩
          grind
    have hrun:(execOp a.eval o).run P w=((Builtin.append_ cl.argTypes o.type (cl.args.map a.eval)).run P w).andThen λv w'=>.ok (.value v) w':=by simp_all[execOp,resolve,invoke,builtin]
    have fin:∀v w',(∃r st' M',(xf A c.n o.dst (.av r) λA'=>K A' st')/\VRel w' (λb o=>M' b o\/Oth b o) r v/\SimB c.N Oth β A st' M' a w'/\Chg M w M' w')->
        ∃A' st' M',K A' st'/\Sim c.N Oth A' st' M' (a.put o.dst v) w'/\Chg M w M' w':=by
      rintro v w' ⟨r,st',M',hk,hv,hs,hchg⟩;unfold xf at hk;cases hd:o.dst with
      |none=>rw[hd]at hk;exact⟨A,st',M',hk,⟨β,hs⟩,hchg⟩
      | some d=>
        rw[hd]at hk;obtain⟨hlt,hk⟩:=Ax hk;exact⟨_,st',M',hk,⟨β,hs.put hlt hv⟩,hchg⟩
    have h1:(cl.args.map a.eval)[1]?=some (a.eval x):=δ;unfold Oper.wp;rw[hrun];rcases h with h|⟨s',x',hes,hex,h⟩;rotate_left
    · have hvs:=qk sim.env hes
      have hvx:=qk sim.env hex;have h0:(cl.args.map a.eval)[0]?=some (a.eval s):=δ;obtain⟨ie,hie⟩:=h.has;obtain⟨v,w',hr,hp⟩:=h.out ie hie _ _ w _ _ _ o.type _ t sim.inner (hvs.mono Iu) (hvx.mono Iu) ht ht1 (ja (hI _ _ hi) hty) (hI _ _ hie) h0 h1;rw[hr];exact fin v w' (sim.post v w' hp)
    unfold ce at h;obtain⟨ie,hie,h⟩:=zr h;split at h
    · rename_i hev
      obtain⟨rows,hrows,hroom,h⟩:=zr h;have hsv:a.eval s=.slice none 0 0:=VRel.eq_s (qk sim.env hev);have h0:(cl.args.map a.eval)[0]?=some (.slice none 0 0):=δ;obtain⟨v,w',r,st',M',hr,hown,hsim,hchg,hv⟩:=(pd (c:=c) sim o.type ⟨ht,ht1,ja (hI _ _ hi) hty,hI _ _ hie,h0,h1⟩ (sim.ev x) hrows).1 ⟨rfl,rfl,λx h=>ω⟩ hroom;rw[hr];exact fin v w' ⟨r,st',M',h r st' hown,hv,hsim,hchg⟩
    · rename_i hev
      obtain⟨rows,hrows,hroom,h⟩:=zr h;have hsv:∃ad,a.eval s=.slice ad 0 0/\∀x,ad=some x->x.spot=none:=by
        have:=qk sim.env hev;generalize a.eval s=v at this;cases this with
        |emp ad h=>grind
      obtain⟨ad,hsv,hspot⟩:=hsv;have h0:(cl.args.map a.eval)[0]?=some (.slice ad 0 0):=δ;obtain⟨v,w',r,st',M',hr,hown,hsim,hchg,hv⟩:=(pd (c:=c) sim o.type ⟨ht,ht1,ja (hI _ _ hi) hty,hI _ _ hie,h0,h1⟩ (sim.ev x) hrows).1 ⟨rfl,rfl,hspot⟩ hroom;rw[hr];exact fin v w' ⟨r,st',M',h r st' hown,hv,hsim,hchg⟩
    · rename_i k rows b hev
      cases hkb:(Nat.beq k ie.size&&Nat.blt 0 ie.size)with
      |false=>grind
      |true=>
      rw[hkb]at h;simp only[cond_true]at h;rw[Fay]at hkb;have hpos:0<ie.size:=Fbm hkb.2;obtain rfl:=(ve _ _).1 hkb.1;obtain⟨rows',hrows,htok,hroom,h⟩:=zr h;have hvr:=qk sim.env hev;obtain⟨base,sLen,sCap,hsv⟩:∃base sLen sCap,a.eval s=.slice base sLen sCap:=by generalize a.eval s=v at hvr;cases hvr<;>simp
      rw[hsv]at hvr;have h0:(cl.args.map a.eval)[0]?=some (.slice base sLen sCap):=δ;obtain⟨v,w',r,st',M',hr,hown,hsim,hchg,hv⟩:=(pd (c:=c) sim o.type ⟨ht,ht1,ja (hI _ _ hi) hty,hI _ _ hie,h0,h1⟩ (sim.ev x) hrows).2 rows b hpos hvr htok hroom;rw[hr];exact fin v w' ⟨r,st',M',h r st' hown,hv,hsim,hchg⟩
    grind
  grind
theorem zay{o:Oper}{x:LV}{v:Value}{a:Act}{w:World}{Oth M:Nat->Nat->Prop}{β:Nat->Nat}(sim:SimB c.N Oth β A st M a w)(hv:LRel w (λb o=>M b o\/Oth b o) β x v)
    (h:xf A c.n o.dst x λA'=>K A' st):∃A' st' M',K A' st'/\Sim c.N Oth A' st' M' (a.put o.dst v) w/\Chg M w M' w:=by
  unfold xf at h;cases hd:o.dst with
  |none=>rw[hd]at h;exact⟨A,st,M,h,⟨β,sim⟩,Chg.refl _ _⟩
  | some d=>
    rw[hd]at h;obtain⟨hlt,h⟩:=Ax h;exact⟨_,st,M,h,⟨β,sim.put hlt hv⟩,Chg.refl _ _⟩
set_option maxHeartbeats 1000000 in
theorem yeb(w:World){t e:TypeId}(hu:P.underlying t=some (.slice e))(ad:Option Addr)(n cap d:Nat):(Op.equalIn (d+1) t (.slice ad n cap) (.slice none 0 0)).run P w=.ok ad.isNone w:=by cases ad<;>simp[Op.equalIn,yn hu]
theorem uu(w:World){t e:TypeId}(hu:P.underlying t=some (.slice e))(ad:Option Addr)(n cap:Nat):
    (binOp .eql t (.slice ad n cap) (.slice none 0 0)).run P w=.ok (.bool ad.isNone) w/\(binOp .neq t (.slice ad n cap) (.slice none 0 0)).run P w=.ok (.bool !ad.isNone) w:=by grind[yeb,binOp,Op.equal,Op.maxDepth,Sem.run_bind,Result.andThen_ok,Sem.run_pure]
theorem ysm{o:Oper}{op:BinOp}{t yt:TypeId}{x y:Operand}(ho:o.op=.binOp op t x y yt)(hI:y9 P c.I)
    (h:br c o op t x y yt K A st):AOp P c.N o K A st:=by
  unfold br at h;split at h
  · rename_i k rows tok hx hy
    obtain⟨i,hi,h⟩:=zr h;rintro Oth M a w ⟨β,sim⟩;have hyv:a.eval y=.slice none 0 0:=VRel.eq_s (qk sim.env hy);have hxv:∃ad n cap,a.eval x=.slice ad n cap/\(ad.isNone=true->rows=[]):=by
      rcases N9 (qk sim.env hx)with⟨_,cap,hv,h2,_⟩|⟨b,off,cap,hv,_⟩
      · grind
      grind
    obtain⟨ad,n,cap,hxv,hnil⟩:=hxv;cases hty:i.ty with
    | slice e=>
      rw[hty]at h;have hu:=ja (hI _ _ hi) hty;cases op with
      | eql=>
        have hrun:(execOp a.eval o).run P w=.ok (.value (.bool ad.isNone)) w:=by simp_all[execOp,eqGuard,uu]
        unfold Oper.wp;rw[hrun,Oper.upon_value];exact zay sim (x:=jv ad.isNone) (VRel.s _) (h _ hnil)
      | neq=>
        have hrun:(execOp a.eval o).run P w=.ok (.value (.bool !ad.isNone)) w:=by simp_all[execOp,eqGuard,uu]
        unfold Oper.wp;rw[hrun,Oper.upon_value];exact zay sim (x:=jv !ad.isNone) (VRel.s _) (h _ hnil)
      |_=>grind
    |_=>grind
  grind[Rn]
theorem zgv(hI:y9 P c.I){o:Oper}(h:Dr P c o K A st):AOp P c.N o K A st:=by
  unfold Dr at h;cases hx:isX o.op with
  |true=>rw[hx]at h;exact cg hI h
  |false=>
  rw[hx]at h;replace h:Ga P c o K A st:=h;unfold Ga at h;cases ho:o.op with
  |alloc t=>grind[Gu,yso]
  |box t x=>grind[ysl]
  |buildSlice t n ps=>simp only[ho]at h;exact zgw ho hI h
  | store t p x=>
    simp only[ho]at h;cases hd:o.dst with
    |some d=>grind
    |none=>rw[hd]at h;exact ysg ho hd hI h
  |binOp op t x y yt=>grind[ysm]
  |convert s t x=>grind[ysj]
  | call cl=>
    simp only[ho]at h;grind[ysk,ysi,ysn,Rn]
  |_=>grind[Rn]
theorem Cfg.noDepth(c:Cfg):c.F.depth.isSome=true->1<=0:=λh=>ω
theorem zfw{c:Cfg}{f:FuncId}{args:Array Value}{w:World}{R:Ending->World->Prop}(h:Calls P f args w R):CallsIn c.F 0 P f args w R:=
  (callsIn_wide (n:=0)).2 h
theorem yem{c:Cfg}{row:String}{args:Array Value}{w:World}{R:Value->World->Prop}(h:Rows P row args w R):RowsIn c.F 0 P row args w R:=
  λx cs _=>let⟨v,w',r,s⟩:=h x cs;⟨v,w',r,stepsIn_wide.2 s⟩
theorem Oper.wpIn_F{o:Oper}(hd:∀cl,o.op≠.defer cl){a:Act}{w:World}{K:Act->World->Prop}{Q:Exit->Act->World->Prop}(h:o.wp P a w K Q):o.wpIn c.F 0 P a w K Q:=by
  refine⟨λ_ _=>Tv,?_⟩;rw[Oper.semAt_eq _ _ _ hd];unfold Oper.wp at h;generalize(execOp a.eval o).run P w=r at*;cases r with
  | ok x w'=>
    cases x<;>simp only[Oper.upon,Oper.uponIn]at h⊢<;>
      first
        |exact h
        |exact⟨c.noDepth,zfw h⟩
        |exact⟨c.noDepth,yem h⟩
        |exact h.elim
  |halt x w'=>cases x<;>trivial<;>exact h
theorem yil{o:Oper}(h:Dr P c o K A st)(cl:Call):o.op≠.defer cl:=by intro e;unfold Dr at h;rw[e]at h;have h:Ga P c o K A st:=h;unfold Ga at h;simp only[e]at h;obtain⟨d,_,h⟩:=zr h;obtain⟨_,h⟩:=Ax h;exact h.elim
theorem zhc{o:Oper}{l:Nat}(h:cq A o.op=some l):∃cl f fv cap,o.op=.call cl/\cl.callee=.value f/\A.ev f=.av (.s (.func (.yield l) fv cap))/\fv=#[]/\cap=#[]:=by
  unfold cq at h;split at h
  · rename_i cl hop
    split at h
    · rename_i f hcl
      split at h
      · rename_i l' fv cap hev
        cases hb:(Nat.beq fv.size 0&&Nat.beq cap.size 0)with
        |false=>grind
        | true=>
          simp_all
      · cases h
    · cases h
  · cases h
theorem yeo{l:Nat}{f:FuncId}{tmps:Array Value}{assign body:Code}{w:World}{R:Ending->World->Prop}(h:RoundIn Fence.wide 0 P l f tmps assign body w R):RoundIn c.F 0 P l f tmps assign body w R:=h
theorem ysp(hI:y9 P c.I){o:Oper}(h:Lx P c o K A st):ytg P c o K A st:=by
  unfold Lx at h;split at h;rotate_left
  · exact λOth M a w sim=>Oper.wpIn_F (yil h) (zgv hI h Oth M a w sim)
  · rename_i l hl
    obtain⟨cl,f,fv,cap,ho,hcl,hf,rfl,rfl⟩:=zhc hl;rintro Oth M a w ⟨β,sim⟩;obtain⟨vs,hvs,h⟩:=zr h;unfold pq at hvs;rw[ho]at hvs;have hfv:a.eval f=.func (.yield l) #[] #[]:=VRel.eq_s (qk sim.env hf);obtain⟨hm1,hm2⟩:=Mu hvs;have hr1:Reads w (λb o=>M b o\/Oth b o) vs (cl.args.map a.eval).toList:=by refine⟨by simp[hm1],λi x y hx hy=>?_⟩;obtain⟨z,hz,hzz⟩:=hm2 i x hx;have hz':cl.args[i]?=some z:=δ;rw[Fck,Faq,hz]at hy;simp at hy;subst hy;exact qk sim.env (Oe hzz)
    have hrun:(execOp a.eval o).run P w=(Instr.yield l (cl.args.map a.eval)).run P w:=by grind[execOp,resolve,Deferred.ofValue,invoke]
    obtain⟨fn,tmps,assign,body,hy,hround⟩:=h.out _ _ w (cl.args.map a.eval) sim.inner ⟨hr1.1,λi x y hx hy=>(hr1.2 i x y hx hy).mono Iu⟩;refine⟨λ_ _=>Tv,?_⟩;rw[Oper.semAt_eq _ _ _ δ,hrun,hy,Oper.uponIn_round];refine⟨c.noDepth,yeo (hround.mono ?_)⟩;rintro e w' ⟨v,rfl,hp⟩;obtain⟨r,st',M',hk,hv,hs,hchg⟩:=sim.post v w' hp;show∃A' st' M',_;unfold xf at hk;cases hd:o.dst with
    |none=>rw[hd]at hk;exact⟨A,st',M',hk,⟨β,hs⟩,hchg⟩
    | some d=>
      rw[hd]at hk;obtain⟨hlt,hk⟩:=Ax hk;exact⟨_,st',M',hk,⟨β,hs.put hlt hv⟩,hchg⟩
end
def Om(c:Cfg)(o:Oper)(A:Fr)(K:Fr->Prop):Prop:=xf A c.n o.dst .und K
def Ba(P:Program)(c:Cfg)(ops:Array Oper)(K:Fr->Store->Prop):List Oper->Fr->Store->Prop
  |[],A,st=>K A st
  | o::rest,A,st=>
    match o.guard with
    |none=>Lx P c o (Ba P c ops K rest) A st
    | some (j,want)=>optK ((ops[j]?).bind (·.dst)) λt=>
      match A.t t with
      |.av (.s (.bool b))=>Dm b
          (bif want then Lx P c o (Ba P c ops K rest) (A.put t (jv true)) st else Om c o (A.put t (jv true)) λA'=>Ba P c ops K rest A' st)
          (bif want then Om c o (A.put t (jv false)) λA'=>Ba P c ops K rest A' st else Lx P c o (Ba P c ops K rest) (A.put t (jv false)) st)
      |.und=>Om c o A λA'=>Ba P c ops K rest A' st
      |_=>False
structure AWp(P:Program)(c:Cfg)(code:Code)(Q:Exit->Fr->Store->Prop)(A:Fr)(st:Store):Prop where
  out:∀Oth M a w,Sim c.N Oth A st M a w->code.wpIn c.F 0 P (λe a' w'=>∃A' st' M',Q e A' st'/\Sim c.N Oth A' st' M' a' w'/\Chg M w M' w') a w
structure ADraw(P:Program)(c:Cfg)(ops:Array Oper)(K:Fr->Store->Prop)(A:Fr)(st:Store):Prop where
  out:∀id,AWp P c (.region id ops true) (λe A' st'=>match e with|.normal=>K A' st'|_=>False) A st
def R8(next:Fr->Store->Prop)(Q:Exit->Fr->Store->Prop):Exit->Fr->Store->Prop
  |.normal=>next
  |e=>Q e
def Wi(id:Nat)(Q:Exit->Fr->Store->Prop):Exit->Fr->Store->Prop
  |.exit id'=>bif Nat.beq id' id then Q .normal else Q (.exit id')
  |e=>Q e
def yim(Q:Exit->Fr->Store->Prop):Exit->Fr->Store->Prop
  |.goto _=>λ_ _=>False
  |e=>Q e
def vc(P:Program)(c:Cfg):Code->(Exit->Fr->Store->Prop)->Fr->Store->Prop
  |.skip,Q,A,st=>Q .normal A st
  | .region _ ops draw,Q,A,st=>match draw with
    |false=>Ba P c ops (Q .normal) ops.toList A st
    |true=>ADraw P c ops (Q .normal) A st
  |.seq a b,Q,A,st=>vc P c a (R8 (vc P c b Q) Q) A st
  | .cond x a b,Q,A,st=>match A.ev x with
    |.av (.s (.bool t))=>Dm t (vc P c a Q A st) (vc P c b Q A st)
    |_=>False
  |.block id b,Q,A,st=>vc P c b (Wi id Q) A st
  |.loop b,Q,A,st=>AWp P c (.loop b) Q A st
  |.exit id,Q,A,st=>Q (.exit id) A st
  |.scope b,Q,A,st=>vc P c b (yim Q) A st
  |.label _,Q,A,st=>Q .normal A st
  |.ret,Q,A,st=>Q .ret A st
  |_,_,_,_=>False
section
variable {P:Program} {c:Cfg}
theorem Fr.put_self{A:Fr}{d:Nat}{x:LV}(h:A.t d=x):A.put d x=A:=by
  unfold Fr.put
  congr
  grind[qe]
theorem zdi{ops:Array Oper}{tmps:Array Value}{j t:Nat}{b:Bool}(hd:(ops[j]?).bind (·.dst)=some t)(h:tmps.getD t undef=.bool b):yielded ops tmps j=some b:=by unfold yielded;rw[hd];simp only[Option.bind_some];rw[Fbg]at h;grind[undef]
theorem zdh{ops:Array Oper}{tmps:Array Value}{j t:Nat}(hd:(ops[j]?).bind (·.dst)=some t)(h:tmps.getD t undef=undef):yielded ops tmps j=none:=by
  unfold yielded;rw[hd];simp only[Option.bind_some];rw[Fbg]at h;cases ht:tmps[t]? with
  |none=>rfl
  |some v=>rw[ht]at h;simp at h;subst h;rfl
theorem Rs{o:Oper}{a:Act}{w:World}{K K':Act->World->Prop}{Q Q':Exit->Act->World->Prop}(hk:∀a w,K a w->K' a w)(hn:∀e a w,e≠.normal->¬Q e a w)(h:o.wpIn c.F 0 P a w K Q):o.wpIn c.F 0 P a w K' Q':=by
  refine⟨h.1,?_⟩;have h:=h.2;generalize(o.semAt c.F.round a.eval).run P w=r at*;have nq:∀(e:Exit) (a:Act) (w:World) {p:Prop},e≠.normal->Q e a w->p:=λe a w p hne h=>(hn e a w hne h).elim;cases r with
  | ok x w'=>
    cases x<;>simp only[Oper.uponIn]at h⊢<;>
      first
        |exact hk _ _ h
        |exact⟨h.1,CallsIn.mono h.2 (λe w'' he=>by
            cases e with
            |returned v=>exact hk _ _ he
            |panicked ch=>exact nq _ _ _ φ he
            |outgrown=>obtain⟨a2,w2,h2⟩:=he;exact nq _ _ _ φ h2)⟩
        |exact⟨h.1,RowsIn.mono h.2 (λ_ _ he=>hk _ _ he)⟩
        |exact⟨h.1,RoundIn.mono h.2 (λe w'' he=>by
            cases e with
            |returned v=>exact hk _ _ he
            |panicked ch=>exact nq _ _ _ φ he
            |outgrown=>obtain⟨a2,w2,h2⟩:=he;exact nq _ _ _ φ h2)⟩
        |exact h
  |halt x w'=>cases x<;>simp only[Oper.uponIn]at h⊢<;>grind
theorem rj(hI:y9 P c.I)(ops:Array Oper)(K:Fr->Store->Prop):∀(l:List Oper) (A:Fr) (st:Store),Ba P c ops K l A st->
    ∀Oth M a w,Sim c.N Oth A st M a w->wpListIn c.F 0 P ops (λe a' w'=>e=.normal/\∃A' st' M',K A' st'/\Sim c.N Oth A' st' M' a' w'/\Chg M w M' w') l a w:=by
  intro l;induction l with
  |nil=>intro A st h Oth M a w sim;exact⟨rfl,A,st,M,h,sim,Chg.refl M w⟩
  | cons o rest ih=>
    intro A st h Oth M a w sim
    have mono:∀(M':Nat->Nat->Prop) (w':World) (a':Act) (A':Fr) (st':Store),Ba P c ops K rest A' st'->Sim c.N Oth A' st' M' a' w'->Chg M w M' w'->
        wpListIn c.F 0 P ops (λe a' w'=>e=.normal/\∃A' st' M',K A' st'/\Sim c.N Oth A' st' M' a' w'/\Chg M w M' w') rest a' w':=by
      intro M' w' a' A' st' h1 h2 h3;have:=ih A' st' h1 Oth M' a' w' h2;clear h h1
      -- weaken the post
      have wm:∀(l:List Oper) (a w0) (Q Q':Exit->Act->World->Prop),(∀e a w,Q e a w->Q' e a w)->(∀e a w,e≠.normal->¬Q e a w)->wpListIn c.F 0 P ops Q l a w0->wpListIn c.F 0 P ops Q' l a w0:=by
        intro l;induction l with
        |nil=>intro a w0 Q Q' hq _ h;exact hq _ _ _ h
        | cons o l ihl=>
          intro a w0 Q Q' hq hn h;unfold wpListIn at h⊢;split
          · rename_i hw
            rw[if_pos hw]at h;grind[Rs]
          grind
      refine wm rest a' w' _ _ ?_ ?_ this
      · rintro e a w ⟨he,A',st',M'',h4,h5,h6⟩
        exact⟨he,A',st',M'',h4,h5,h3.trans h6⟩
      grind
    -- an operation that is carried out
    have go:∀A1,Lx P c o (Ba P c ops K rest) A1 st->Sim c.N Oth A1 st M a w->Region.wanted o (yielded ops a.tmps)=true->
        wpListIn c.F 0 P ops (λe a' w'=>e=.normal/\∃A' st' M',K A' st'/\Sim c.N Oth A' st' M' a' w'/\Chg M w M' w') (o::rest) a w:=by
      intro A1 h1 sim1 hw;unfold wpListIn;rw[if_pos hw];exact Rs (λa' w' ⟨A',st',M',h3,h4,h5⟩=>mono M' w' a' A' st' h3 h4 h5) (λ_ _ _ _ h=>h) (ysp hI h1 Oth M a w sim1)
    have skip:∀A1,(Om c o A1 λA'=>Ba P c ops K rest A' st)->Sim c.N Oth A1 st M a w->Region.wanted o (yielded ops a.tmps)=false->
        wpListIn c.F 0 P ops (λe a' w'=>e=.normal/\∃A' st' M',K A' st'/\Sim c.N Oth A' st' M' a' w'/\Chg M w M' w') (o::rest) a w:=by
      intro A1 h1 sim1 hw;unfold wpListIn;rw[if_neg δ];refine⟨λ_ _=>Tv,?_⟩;obtain⟨β,sim1⟩:=sim1;unfold Om xf at h1;cases hd:o.dst with
      |none=>rw[hd]at h1;exact mono M w _ A1 st h1 ⟨β,sim1⟩ (Chg.refl _ _)
      | some d=>
        rw[hd]at h1;obtain⟨hlt,h1⟩:=Ax h1;exact mono M w _ _ st h1 ⟨β,sim1.put hlt (x:=.und) rfl⟩ (Chg.refl _ _)
    unfold Ba at h;cases hg:o.guard with
    | none=>
      grind[Region.wanted]
    | some jw=>
      obtain⟨j,want⟩:=jw;rw[hg]at h;obtain⟨t,ht,h⟩:=zr h;have hwant:∀y,yielded ops a.tmps j=y->Region.wanted o (yielded ops a.tmps)=(y==some want):=λy hy=>by simp[Region.wanted,hg,hy]
      split at h
      · rename_i b hb
        have htv:a.tmps.getD t undef=.bool b:=by obtain⟨β,s⟩:=sim;have:=s.tm t;rw[hb]at this;exact VRel.eq_s this
        have hw:=hwant _ (zdi ht htv);cases b with
        | true=>
          rw[Fr.put_self (A:=A) (x:=jv true) hb]at h;cases want with
          |true=>exact go A h sim δ
          |false=>exact skip A h sim δ
        | false=>
          rw[Fr.put_self (A:=A) (x:=jv false) hb]at h;cases want with
          |true=>exact skip A h sim δ
          |false=>exact go A h sim δ
      · rename_i hb
        have htv:a.tmps.getD t undef=undef:=by obtain⟨β,s⟩:=sim;have:=s.tm t;rw[hb]at this;exact this
        grind[zdh]
      grind
end
section
variable {P:Program} {c:Cfg}
theorem Code.wpF_mono{F:Fence}{code:Code}{Q Q':Exit->Act->World->Prop}{a:Act}{w:World}(hq:∀e a w,Q e a w->Q' e a w)(h:code.wpIn F 0 P Q a w):code.wpIn F 0 P Q' a w:=wpIn_mono h hq
theorem zhl{F:Fence}{n:Nat}{code:Code}{Q:Exit->Act->World->Prop}{a:Act}{w:World}(h:code.wpIn F n P (Exit.noGoto Q) a w):(Code.scope code).wpIn F n P Q a w:=by
  intro b k cs hro hb hr;have s1:step P (lone (b.atR a (.code (.scope code)::k)) cs w)=.next (lone (b.atR a (.code code::.inScope code::k)) cs w):=step_lone_go ξ;have h0:(lone (b.atR a (.code (.scope code)::k)) cs w).fenced P F:=fenced_calm hb hr rfl;obtain⟨e,a₁,w₁,hq,harr⟩:=h b (.inScope code::k) cs hro hb hr;cases e with
  | normal=>
    have s2:step P (lone (b.atR a₁ (.inScope code::k)) cs w₁)=.next (lone (b.atR a₁ k) cs w₁):=step_lone_go ξ;exact⟨.normal,a₁,w₁,hq,.head h0 s1 (StepsIn.trans harr (.one (fenced_calm hb hr rfl) s2))⟩
  | exit id=>
    have hx:exitTo id (.inScope code::k)=exitTo id k:=ξ;exact⟨.exit id,a₁,w₁,hq,λk' hk=>.head h0 s1 (harr.1 k' δ),λhr' hk=>let⟨k₁,h1,h2⟩:=harr.2 hr' δ;⟨k₁,h1,.head h0 s1 h2⟩⟩
  |goto l=>trivial
  |ret=>exact⟨_,a₁,w₁,hq,.of_steps (.one h0 s1) harr⟩
  |panic ch=>exact⟨_,a₁,w₁,hq,.of_steps (.one h0 s1) harr⟩
  |outgrown=>exact⟨_,a₁,w₁,hq,.of_steps (.one h0 s1) harr⟩
theorem AWp.mono{code:Code}{Q Q':Exit->Fr->Store->Prop}{A:Fr}{st:Store}(h:AWp P c code Q A st)(hq:∀e A st,Q e A st->Q' e A st):AWp P c code Q' A st:=
  ⟨λOth M a w sim=>Code.wpF_mono (λe a' w' ⟨A',st',M',h1,h2,h3⟩=>⟨A',st',M',hq _ _ _ h1,h2,h3⟩) (h.out Oth M a w sim)⟩
theorem zhi{F:Fence}{ops:Array Oper}{id:Nat}{Q:Exit->Act->World->Prop}{R:Act->World->Prop}{a:Act}{w:World}(h:wpListIn F 0 P ops (λe a' w'=>e=.normal/\R a' w') ops.toList a w)(hq:∀a w,R a w->Q .normal a w):(Code.region id ops false).wpIn F 0 P Q a w:=
  Code.wpF_mono (λe a' w' ⟨he,hr⟩=>δ) (wpIn_region_list h)
theorem dc(hI:y9 P c.I):∀(code:Code) (Q:Exit->Fr->Store->Prop) (A:Fr) (st:Store),vc P c code Q A st->AWp P c code Q A st:=by
  intro code;induction code with
  |skip=>intro Q A st h;exact⟨λOth M a w sim=>wpIn_skip ⟨A,st,M,h,sim,Chg.refl _ _⟩⟩
  | region id ops draw=>
    intro Q A st h;cases draw with
    |false=>exact⟨λOth M a w sim=>zhi (rj hI ops (Q .normal) ops.toList A st h Oth M a w sim) λ_ _ h=>h⟩
    |true=>exact(ADraw.out h id).mono λe A' st' h'=>δ
  | seq x y ihx ihy=>
    intro Q A st h;refine⟨λOth M a w sim=>wpIn_seq ?_⟩;refine Code.wpF_mono ?_ ((ihx _ A st h).out Oth M a w sim);rintro e a' w' ⟨A',st',M',h1,h2,h3⟩;cases e with
    | normal=>
      refine Code.wpF_mono ?_ ((ihy _ A' st' h1).out Oth M' a' w' h2);rintro e a'' w'' ⟨A'',st'',M'',h4,h5,h6⟩;exact⟨A'',st'',M'',h4,h5,h3.trans h6⟩
    |_=>exact⟨A',st',M',h1,h2,h3⟩
  | cond x p q ihp ihq=>
    intro Q A st h;simp only[vc]at h;split at h
    · rename_i t ht
      refine⟨λOth M a w sim=>?_⟩;have hv:a.eval x=.bool t:=by obtain⟨β,s⟩:=sim;exact VRel.eq_s (qk s.env ht)
      refine wpIn_cond hv ?_;cases t with
      |true=>exact(ihp Q A st h).out Oth M a w sim
      |false=>exact(ihq Q A st h).out Oth M a w sim
    grind
  | block id b ih=>
    intro Q A st h;refine⟨λOth M a w sim=>wpIn_block ?_⟩;refine Code.wpF_mono ?_ ((ih _ A st h).out Oth M a w sim);rintro e a' w' ⟨A',st',M',h1,h2,h3⟩;cases e with
    | exit id'=>
      simp only[Wi]at h1;simp only[Exit.inBlock];by_cases he:id'=id
      · subst he
        simp only[Fbr,cond_true]at h1;grind
      · simp only[qe he,cond_false]at h1
        grind
    |_=>exact⟨A',st',M',h1,h2,h3⟩
  |loop b ih=>intro Q A st h;exact h
  |rangeFunc f ps x y ihx ihy=>intro Q A st h;exact h.elim
  |exit id=>intro Q A st h;exact⟨λOth M a w sim=>wpIn_exit ⟨A,st,M,h,sim,Chg.refl _ _⟩⟩
  | scope b ih=>
    intro Q A st h;refine⟨λOth M a w sim=>zhl ?_⟩;refine Code.wpF_mono ?_ ((ih _ A st h).out Oth M a w sim);rintro e a' w' ⟨A',st',M',h1,h2,h3⟩;cases e with
    |goto l=>trivial
    |_=>exact⟨A',st',M',h1,h2,h3⟩
  |label l=>intro Q A st h;exact⟨λOth M a w sim=>wpIn_label ⟨A,st,M,h,sim,Chg.refl _ _⟩⟩
  |goto l=>intro Q A st h;exact h.elim
  |ret=>intro Q A st h;exact⟨λOth M a w sim=>wpIn_ret ⟨A,st,M,h,sim,Chg.refl _ _⟩⟩
  |refuse s=>intro Q A st h;exact h.elim
def Oy(c:Cfg)(A:Fr)(st:Store):List ResultVar->(List AV->Prop)->Prop
  |[],K=>K []
  | .tmp t::rest,K=>match A.t t with
    |.av x=>Oy c A st rest λl=>K (x::l)
    |_=>False
  |.cell p t::rest,K=>optK (c.I t) λi=>Rh A.bx st (A.t p) λl=>optK (Dx i l) λx=>Oy c A st rest λl=>K (x::l)
def zah:List AV->AV
  |[x]=>x
  |l=>.tup l
def Vb(c:Cfg)(rs:List ResultVar)(R:Ja)(A:Fr)(st:Store):Prop:=
  Oy c A st rs λl=>∃r st',AV.le (zah l) r/\st.Has st'/\R r st'
def ft(c:Cfg)(rs:List ResultVar)(R:Ja):Exit->Fr->Store->Prop
  |.normal=>Vb c rs R
  |.ret=>Vb c rs R
  |_=>λ_ _=>False
def cd(args:List AV)(i:Nat):LV:=
  match args,i with
  |[],_=>.und
  |x::_,0=>.av x
  |_::l,i+1=>cd l i
def Ca(args:List AV):Fr:=⟨cd args,λ_=>none⟩
theorem o9(args:List AV)(i:Nat):cd args i=match args[i]? with|some x=>.av x|none=>.und:=by
  induction args generalizing i with
  |nil=>rfl
  | cons x l ih=>
    cases i with
    |zero=>rfl
    |succ i=>simp[cd,ih]
theorem zai(hI:y9 P c.I){w:World}{T:Nat->Nat->Prop}{β:Nat->Nat}{A:Fr}{st:Store}{a:Act}(he:Env w T β A.ev A.bx st a.eval):∀(rs:List ResultVar) (K:List AV->Prop),Oy c A st rs K->
    ∃l vs,K l/\(rs.mapM (m:=Sem) λ|.tmp t=>pure (a.tmps.getD t undef)|.cell p t=>do loadVar t (<-asAddr (a.tmps.getD p undef))).run P w=.ok vs w/\Reads w T l vs:=by
  intro rs;induction rs with
  |nil=>intro K h;exact⟨[],[],h,φ,Reads.nil⟩
  | cons r rs ih=>
    intro K h;cases r with
    | tmp t=>
      simp only[Oy]at h;split at h
      · rename_i x hx
        obtain⟨l,vs,h1,h2,h3⟩:=ih _ h;refine⟨x::l,a.tmps.getD t undef::vs,h1,θh,Reads.cons ?_ h3⟩;have:=he.ev (.tmp t);simp only[Fr.ev,hx]at this;exact this
      grind
    | cell p t=>
      obtain⟨i,hi,h⟩:=zr h;obtain⟨cl,hcl,_,hs⟩:=zfr h;obtain⟨x,hx,hcl⟩:=zr hcl;obtain⟨b,off,hv,hav⟩:=hs w T β a.eval he _ (he.ev (.tmp p));obtain⟨v,hr,hvr⟩:=zcp (hI _ _ hi) hav hx;obtain⟨l,vs,h1,h2,h3⟩:=ih _ hcl;have hv':a.tmps.getD p undef=.pointer (some ⟨b,off,none⟩):=hv;refine⟨x::l,v::vs,h1,?_,Reads.cons hvr h3⟩;grind[asAddr,Sem.run_bind,Sem.run_pure,Result.andThen_ok]
theorem yfy{w:World}{T:Nat->Nat->Prop}{l:List AV}{vs:List Value}(h:Reads w T l vs):VRel w T (zah l) (if h:vs.toArray.size=1 then vs.toArray[0]else .tuple vs.toArray):=by
  obtain⟨hl,hr⟩:=h
  match l,vs,hl with
  |[x],[v],_=>exact hr 0 x v rfl rfl
  |[],[],_=>exact vx ⟨rfl,hr⟩
  | x::y::l,u::v::vs,hl=>
    exact vx ⟨θ,θ⟩
def He(w:World)(b:Nat)(o:Obj):World:={w with heap:=w.heap.setIfInBounds b o}
theorem ygy{w:World}{b:Nat}{o:Obj}(h:b<w.heap.size):(He w b o).heap[b]?=some o:=by simp[He,h]
theorem ga{w:World}{b k:Nat}{o:Obj}(h:k≠b):(He w b o).heap[k]?=w.heap[k]?:=by simp_all[He,Ne.symm]
theorem ygx{w:World}{b:Nat}{o:Obj}:(He w b o).heap.size=w.heap.size:=by simp[He]
theorem yea{w:World}{b:Nat}(h:w.heap[b]?=some (.deferred (some []))):(Instr.takeDeferred b).run P w=.ok [] (He w b (.deferred none)):=by simp_all[Instr.takeDeferred,getObj,setObj,Sem.run,He]
structure Shut(Oth M:Nat->Nat->Prop)(w w':World):Prop where
  size:w'.heap.size=w.heap.size
  blk:∀b,w'.heap[b]?=w.heap[b]?\/(w.heap[b]?=some (.deferred (some []))/\w'.heap[b]?=some (.deferred none)/\∀o,¬M b o/\¬Oth b o)
  tape:w'.tape=w.tape
  os:w'.os=w.os
  output:w'.output=w.output
theorem Shut.keeps{Oth M:Nat->Nat->Prop}{w w':World}(h:Shut Oth M w w')(T:Nat->Nat->Prop):Keeps w T w' T where
  cell b o c hc _:=by
    rcases h.blk b with e|⟨e,_,_⟩
    · rw[F6 e];exact hc
    · simp[World.cell?,e]at hc
  out _ _ _ _ hT:=hT
  shp b c e fr hw:=by
    rcases h.blk b with e'|⟨e',_,_⟩
    · grind
    grind
theorem Shut.sto{Oth M:Nat->Nat->Prop}{w w':World}{st:Store}(h:Shut Oth M w w')(s:StoreOK st Oth M w):StoreOK st Oth M w' where
  obj b x hx:=by
    have h1:=s.obj b x hx;refine⟨ObjRel.same h1.1 (h.keeps _) ?_,h1.2⟩;rcases h.blk b with e|⟨_,_,e⟩
    · exact e
    simp_all
  tok b top ht:=by
    obtain⟨c,e,fr,h1,h2,h3,h4⟩:=s.tok b top ht;rcases h.blk b with e'|⟨e',_,_⟩
    · grind
    grind
  mlt b o hm:=by rw[h.size];exact s.mlt b o hm
  olt b o hm:=by rw[h.size];exact s.olt b o hm
  dis:=s.dis
theorem yki{Oth M:Nat->Nat->Prop}{fn:Func}{tmps:Array Value}{R:Ending->World->Prop}:∀(ds:List Deferred) (w:World),Marks Oth M w ds->
    (∀w',Shut Oth M w w'->∃v,(results fn tmps).run P w'=.ok v w'/\R (.returned v) w')->LeavesInM Fence.wide 0 P fn tmps R ds .returning w:=by
  intro ds;induction ds with
  |nil=>intro w _ h;exact h w ⟨rfl,λ_=>.inl rfl,rfl,rfl,rfl⟩
  | cons d ds ih=>
    intro w hm h;obtain⟨D,rfl,h1,h2⟩:=hm.all d (Fa7);have hnd:=Fct.1 hm.nd;refine⟨φ,.inl ⟨D,He w D (.deferred none),rfl,yea h1,ih _ ⟨hnd.2,λd' hd'=>?_⟩ λw' hs=>h w' ?_⟩⟩
    · obtain⟨D',e,h3,h4⟩:=hm.all d' (Fav _ hd')
      grind[ga]
    · refine⟨hs.size.trans ygx,λb=>?_,hs.tape,hs.os,hs.output⟩
      by_cases hb:b=D
      · subst hb
        refine .inr ⟨h1,?_,h2⟩;rcases hs.blk b with e|⟨e,_,_⟩
        · rw[e];exact ygy (Gs h1)
        omega
      · rcases hs.blk b with e|⟨e,e2,e3⟩
        · exact .inl (e.trans (ga hb))
        grind[ga]
def Gk(Oth M:Nat->Nat->Prop)(w:World):Nat->Nat->Prop:=λb o=>Oth b o\/(b<w.heap.size/\¬M b o/\∀c e fr,w.heap[b]?=some (.cells c e fr)->c.size<=o)
theorem zbe{Oth M:Nat->Nat->Prop}(w:World):Keeps w (λb o=>M b o\/Oth b o) w (λb o=>M b o\/Gk Oth M w b o) where
  cell _ _ _ h _:=h
  out b o v hc hT:=by
    rintro(h|h|⟨_,_,h⟩)
    · grind
    · grind
    grind[World.cell?]
  shp b c e fr h:=⟨c,fr,h,rfl⟩
theorem yhp{Oth M:Nat->Nat->Prop}{w:World}{st:Store}(s:StoreOK st Oth M w):StoreOK st (Gk Oth M w) M w where
  obj b x hx:=⟨ObjRel.same (s.obj b x hx).1 (zbe w) rfl,(s.obj b x hx).2⟩
  tok:=s.tok
  mlt:=s.mlt
  olt b o h:=h.elim (s.olt b o) λh=>h.1
  dis b o h:=h.elim (s.dis b o) λh=>h.2.1
theorem yhq{Oth M:Nat->Nat->Prop}{w:World}{st:Store}{R:Ja}{r:AV}{v:Value}{st':Store}{M':Nat->Nat->Prop}{w' w'':World}(s:StoreOK st Oth M w)(hR:R r st')(hr:VRel w'' (λb o=>M' b o\/Gk Oth M w b o) r v)
    (sto:StoreOK st' (Gk Oth M w) M' w') (hc:Chg M w M' w') (hs:Shut (Gk Oth M w) M' w' w''):qy st R Oth M w v w'':=by
  have hT:∀b o,(M' b o\/Oth b o)->(M' b o\/Gk Oth M w b o):=λb o h=>h.imp id .inl;have sto':=hs.sto sto;refine⟨r,st',M',hR,hr.mono hT,⟨λb x hx=>⟨(sto'.obj b x hx).1.mono hT,(sto'.obj b x hx).2⟩,sto'.tok,sto'.mlt,λb o h=>sto'.olt b o (.inl h),λb o h=>sto'.dis b o (.inl h)⟩,?_⟩;refine{size:=by rw[hs.size];exact hc.size,keep:=λb o hb hm=>?_,blk:=λb hb hm=>?_,shp:=λb c e fr hw=>?_,sub:=hc.sub,tape:=hs.tape.trans hc.tape,os:=hs.os.trans hc.os,output:=hs.output.trans hc.output}
  · rw[<-hc.keep b o hb hm]
    rcases hs.blk b with e|⟨e,e2,_⟩
    · exact F6 e o
    · simp[World.cell?,e,e2]
  · rcases hs.blk b with e|⟨_,_,e⟩
    · exact e.trans (hc.blk b hb hm)
    · exfalso
      cases hx:w.heap[b]? with
      | none=>
        grind
      | some x=>
        cases x with
        |cells c e1 fr=>exact(e c.size).2 (.inr ⟨hb,hm _,λc' e' fr' h=>δ⟩)
        |_=>exact(e 0).2 (.inr ⟨hb,hm _,λc' e' fr' h=>δ⟩)
  · obtain⟨c',fr',h1,h2⟩:=hc.shp b c e fr hw
    rcases hs.blk b with e'|⟨e',_,_⟩
    · grind
    grind
theorem ACalls.of_awp (hI : y9 P c.I) {g : FuncId} {fn : Func} {code : Code} {args : List AV} {st : Store} {R : Ja} (hf : P.funcs[g]? = some fn) (hb : fn.body = some code) (hname : (fn.name == "runtime.NumGoroutine") = false)
    (hn:fn.ntmps=c.n) (hlen:Nat.ble args.length c.n=true) (h:AWp P c code (ft c fn.results.toList R) (Ca args) st) (hround:c.round=none:=by rfl) (hD:c.D0=[]:=by rfl):ACalls P g args st R:=by
  refine⟨λOth M w vs sto hr=>?_⟩;have hrun:(callFunc g vs).run P w=.ok (.enter g vs) w:=θz;rw[hrun];have hF:c.F=Fence.wide:=by unfold Cfg.F;rw[hround];rfl
  refine(callsIn_wide (n:=0)).1 (callsIn_of_wp_marks hf hb trivial ?_);have hle:args.length<=c.n:=Fbm hlen;have hsz:vs.size=args.length:=by simpa using hr.1.symm
  let a:Act:={tmps:=vs++Array.replicate (fn.ntmps-vs.size) undef,defers:=[]}
  have sim:SimB c.N (Gk Oth M w) (λ_=>0) (Ca args) st M a w:=
    { tsz:=by show Array.size _=c.n;grind
      dfr:=MarksD.nil hD
      tm:=λi=>by
        simp only[Ca,o9,a];rw[Fbg];by_cases hi:i<vs.size
        · rw[Fda hi,Fac θ]
          exact(hr.2 i _ _ (Fac θ) (by simp[hi])).keep (zbe w)
        grind[LRel]
      bx:=λk l hk=>by trivial
      inj:=λk k' hk=>by trivial
      sep:=λk b hk=>by trivial
      sto:=yhp sto}
  have h2:=h.out (Gk Oth M w) M a w ⟨_,sim⟩;rw[hF]at h2;refine Code.wpF_mono ?_ h2
  have fin:∀a' w' A' st' M',Vb c fn.results.toList R A' st'->Sim c.N (Gk Oth M w) A' st' M' a' w'->Chg M w M' w'->
      LeavesInM Fence.wide 0 P fn a'.tmps (λe w'=>∃v,e=.returned v/\qy st R Oth M w v w') a'.defers .returning w':=by
    rintro a' w' A' st' M' hret ⟨β,s⟩ hchg;refine yki a'.defers w' (s.dfr.out hD) λw'' hs=>?_;have hblk:∀b o,M' b o->w''.heap[b]?=w'.heap[b]?:=λb o hm=>by
      rcases hs.blk b with e|⟨_,_,e⟩
      · exact e
      grind
    have he:Env w'' (λb o=>M' b o\/Gk Oth M w b o) β A'.ev A'.bx st' a'.eval:=
      ⟨λx=>(s.ev x).keep (hs.keeps _),λk l hk=>(s.bx k l hk).1.same (hs.keeps _) (hblk _ 0 ((s.bx k l hk).2 0)),λb x hx=>((hs.sto s.sto).obj b x hx).1⟩
    obtain⟨l,vs,⟨r,st'',h1,h2,h3⟩,h4,h5⟩:=zai hI he _ _ hret;refine⟨_,?_,_,rfl,yhq sto h3 (h1 _ _ _ (yfy h5)) (s.sto.weaken h2) hchg hs⟩;unfold results;rw[Sem.run_bind,Fd8,Sem.run_map];exact congrArg (λr=>(Result.andThen (Result.andThen r λl w=>.ok l.toArray w) λ(vs:Array Value) w'=>.ok (if h:vs.size=1 then vs[0]else .tuple vs) w')) h4
  rintro e a' w' ⟨A',st',M',h1,h2,h3⟩;cases e with
  |normal=>exact fin a' w' A' st' M' h1 h2 h3
  |ret=>exact fin a' w' A' st' M' h1 h2 h3
  |_=>trivial
theorem Qb (hI : y9 P c.I) {g : FuncId} {fn : Func} {code : Code} {args : List AV} {st : Store} {R : Ja} (hf : P.funcs[g]? = some fn) (h : AWp P c code (ft c fn.results.toList R) (Ca args) st) (hb : fn.body = some code := by rfl) (hname : (fn.name == "runtime.NumGoroutine") = false := by rfl) (hn : fn.ntmps = c.n := by rfl) (hlen : Nat.ble args.length c.n = true := by rfl) (hround : c.round = none := by rfl) (hD : c.D0 = [] := by rfl): ACalls P g args st R := ACalls.of_awp hI hf hb hname hn hlen h hround hD
theorem ACalls.of_body (hI : y9 P c.I) {g : FuncId} {fn : Func} {code : Code} {args : List AV} {st : Store} {R : Ja} (hf : P.funcs[g]? = some fn) (hb : fn.body = some code) (hname : (fn.name == "runtime.NumGoroutine") = false)
    (hn:fn.ntmps=c.n) (hlen:Nat.ble args.length c.n=true) (h:vc P c code (ft c fn.results.toList R) (Ca args) st) (hround:c.round=none:=by rfl) (hD:c.D0=[]:=by rfl):ACalls P g args st R:=
  ACalls.of_awp hI hf hb hname hn hlen (dc hI code _ _ st h) hround hD
theorem Qa (hI : y9 P c.I) {g : FuncId} {fn : Func} {code : Code} {args : List AV} {st : Store} {R : Ja} (hf : P.funcs[g]? = some fn) (h : vc P c code (ft c fn.results.toList R) (Ca args) st) (hb : fn.body = some code := by rfl) (hname : (fn.name == "runtime.NumGoroutine") = false := by rfl) (hn : fn.ntmps = c.n := by rfl) (hlen : Nat.ble args.length c.n = true := by rfl) (hround : c.round = none := by rfl) (hD : c.D0 = [] := by rfl): ACalls P g args st R := ACalls.of_body hI hf hb hname hn hlen h hround hD
def Fu(l:List (Nat×LV))(i:Nat):LV:=
  match l with
  |[]=>.any
  |(j,x)::l=>bif Nat.beq i j then x else Fu l i
def La(l:List (Nat×List AV))(i:Nat):Option (List AV):=
  match l with
  |[]=>none
  |(j,x)::l=>bif Nat.beq i j then some x else La l i
def Hi(l:List (Nat×LV))(b:List (Nat×List AV)):Fr:=⟨Fu l,La b⟩
def Nf(A:Fr):List (Nat×LV)->Prop
  |[]=>True
  |(j,x)::l=>LV.le (A.t j) x/\Nf A l
def Ng(A:Fr):List (Nat×List AV)->Prop
  |[]=>True
  |(j,x)::l=>A.bx j=some x/\Ng A l
theorem yoa{A:Fr}:∀{l:List (Nat×LV)},Nf A l->∀i,LV.le (A.t i) (Fu l i):=by
  intro l;induction l with
  |nil=>intro _ i;exact LV.le_any _
  | cons p l ih=>
    obtain⟨j,x⟩:=p;intro h i;simp only[Fu];by_cases hi:i=j
    · subst hi;simp only[Fbr,cond_true];exact h.1
    · simp only[qe hi,cond_false];exact ih h.2 i
theorem yob{A:Fr}:∀{l:List (Nat×List AV)},Ng A l->∀i x,La l i=some x->A.bx i=some x:=by
  intro l;induction l with
  |nil=>intro _ i x h;trivial
  | cons p l ih=>
    obtain⟨j,y⟩:=p;intro h i x hx;simp only[La]at hx;by_cases hi:i=j
    · subst hi;simp only[Fbr,cond_true]at hx;rw[<-hx];exact h.1
    · simp only[qe hi,cond_false]at hx;exact ih h.2 i x hx
theorem Sim.fits{n:SN}{Oth M:Nat->Nat->Prop}{A:Fr}{st st':Store}{a:Act}{w:World}(h:Sim n Oth A st M a w){l:List (Nat×LV)}{b:List (Nat×List AV)}(ht:Nf A l)(hb:Ng A b)(hs:st.Has st'):Sim n Oth (Hi l b) st' M a w:=by
  obtain⟨β,s⟩:=h;have hbx:∀k x,La b k=some x->A.bx k=some x:=yob hb;have hne:∀k,La b k≠none->A.bx k≠none:=λk hk=>by
    cases hl:La b k with
    |none=>grind
    |some x=>grind
  exact⟨β,
    { tsz:=s.tsz
      dfr:=s.dfr
      tm:=λi=>yoa ht i _ _ _ _ (s.tm i)
      bx:=λk x hk=>s.bx k x (hbx k x hk)
      inj:=λk k' h1 h2=>s.inj k k' (hne k h1) (hne k' h2)
      sep:=λk b hk hb=>s.sep k b (hne k hk) (by
        rcases hb with hb|hb
        · cases ho:st'.obj b with
          |none=>grind
          |some x=>exact .inl (by rw[hs.obj b x ho];simp)
        · cases ho:st'.tok b with
          |none=>grind
          |some x=>exact .inr (by rw[hs.tok b x ho];simp))
      sto:=s.sto.weaken hs}⟩
theorem AWp.weaken{code:Code}{Q:Exit->Fr->Store->Prop}{A:Fr}{st st':Store}{l:List (Nat×LV)}{b:List (Nat×List AV)}(h:AWp P c code Q (Hi l b) st')(ht:Nf A l)(hb:Ng A b)(hs:st.Has st'):AWp P c code Q A st:=
  ⟨λOth M a w sim=>h.out Oth M a w (sim.fits ht hb hs)⟩
structure LoopHead(σ:Type) where
  t:σ->List (Nat×LV)
  bx:σ->List (Nat×List AV)
  inv:σ->Store->Prop
  μ:σ->Nat
def LoopHead.at{σ:Type}(H:LoopHead σ)(A:Fr)(st:Store)(p:σ->Prop):Prop:=
  ∃s,p s/\H.inv s st/\Nf A (H.t s)/\Ng A (H.bx s)
def zab{σ:Type}(H:LoopHead σ)(s:σ)(Q:Exit->Fr->Store->Prop):Exit->Fr->Store->Prop
  |.normal=>λA st=>H.at A st λs'=>H.μ s'<H.μ s
  |e=>Q e
theorem AWp.loop{σ:Type}(H:LoopHead σ){b:Code}{Q:Exit->Fr->Store->Prop}{A:Fr}{st:Store}(hI:y9 P c.I)(h0:H.at A st λ_=>True)
    (round:∀s st,H.inv s st->vc P c b (zab H s Q) (Hi (H.t s) (H.bx s)) st):AWp P c (.loop b) Q A st:=by
  obtain⟨s0,_,hi0,ht0,hb0⟩:=h0;refine⟨λOth M a w sim=>?_⟩
  refine wpIn_loop_ghost (λn a' w'=>∃s st' M',H.μ s=n/\H.inv s st'/\Sim c.N Oth (Hi (H.t s) (H.bx s)) st' M' a' w'/\Chg M w M' w') (H.μ s0)
    ⟨s0,st,M,rfl,hi0,sim.fits ht0 hb0 (Store.Has.refl st),Chg.refl M w⟩ ?_
  rintro n a' w' ⟨s,st',M',rfl,hi,hsim,hchg⟩;refine Code.wpF_mono ?_ ((dc hI b _ _ st' (round s st' hi)).out Oth M' a' w' hsim);rintro e a'' w'' ⟨A'',st'',M'',h1,h2,h3⟩;cases e with
  | normal=>
    obtain⟨s',hlt,hi',ht',hb'⟩:=h1;exact⟨H.μ s',hlt,s',st'',M'',rfl,hi',h2.fits ht' hb' (Store.Has.refl st''),hchg.trans h3⟩
  |_=>exact⟨A'',st'',M'',h1,h2,hchg.trans h3⟩
end
section
variable {P:Program} {c:Cfg}
theorem AWp.of_vc(hI:y9 P c.I){code:Code}{Q:Exit->Fr->Store->Prop}{A:Fr}{st:Store}(h:vc P c code Q A st):AWp P c code Q A st:=dc hI code Q A st h
theorem AWp.seq{x y:Code}{Q:Exit->Fr->Store->Prop}{A:Fr}{st:Store}(h:AWp P c x (R8 (AWp P c y Q) Q) A st):AWp P c (.seq x y) Q A st:=by
  refine⟨λOth M a w sim=>wpIn_seq ?_⟩;refine Code.wpF_mono ?_ (h.out Oth M a w sim);rintro e a' w' ⟨A',st',M',h1,h2,h3⟩;cases e with
  | normal=>
    refine Code.wpF_mono ?_ ((AWp.out h1) Oth M' a' w' h2);rintro e a'' w'' ⟨A'',st'',M'',h4,h5,h6⟩;exact⟨A'',st'',M'',h4,h5,h3.trans h6⟩
  |_=>exact⟨A',st',M',h1,h2,h3⟩
theorem AWp.block{id:Nat}{b:Code}{Q:Exit->Fr->Store->Prop}{A:Fr}{st:Store}(h:AWp P c b (Wi id Q) A st):AWp P c (.block id b) Q A st:=by
  refine⟨λOth M a w sim=>wpIn_block ?_⟩;refine Code.wpF_mono ?_ (h.out Oth M a w sim);rintro e a' w' ⟨A',st',M',h1,h2,h3⟩;cases e with
  | exit id'=>
    simp only[Wi]at h1;simp only[Exit.inBlock];by_cases he:id'=id
    · subst he
      simp only[Fbr,cond_true]at h1;grind
    · simp only[qe he,cond_false]at h1
      grind
  |_=>exact⟨A',st',M',h1,h2,h3⟩
structure Meet(σ:Type) where
  t:σ->List (Nat×LV)
  bx:σ->List (Nat×List AV)
  inv:σ->Store->Prop
def Meet.at{σ:Type}(H:Meet σ)(A:Fr)(st:Store):Prop:=∃s,H.inv s st/\Nf A (H.t s)/\Ng A (H.bx s)
theorem AWp.meet{σ:Type}(H:Meet σ)(hI:y9 P c.I){x y:Code}{Q:Exit->Fr->Store->Prop}{A:Fr}{st:Store}(hx:vc P c x (R8 H.at Q) A st)
    (hy:∀s st',H.inv s st'->AWp P c y Q (Hi (H.t s) (H.bx s)) st'):AWp P c (.seq x y) Q A st:=by
  refine AWp.seq ((AWp.of_vc hI hx).mono λe A' st' h=>?_);cases e with
  | normal=>
    obtain⟨s,h1,h2,h3⟩:=h;exact AWp.weaken (hy s st' h1) h2 h3 (Store.Has.refl st')
  |_=>exact h
end
section
variable {P:Program}
def m7(P:Program)(t:TypeId):Bool:=
  !P.stoodInHeld t && !P.eqGuardType P.depth t && (match P.underlying t with | some (.struct fs) => fs.toList.all fun f => f.name != "_" | _ => true)
def co(z:Value)(d:Ty):Bool:=match z with|.agg _=>Cy d|_=> !Cy d
def infoOf(P:Program)(t:TypeId)(eq:Bool):Option TI:=
  match P.info? t,P.underlying t with
  | some inf,some d=>match inf.zero with
    |some z=>bif Nat.beq z.cells.toList.length inf.size&&(!eq||m7 P t)&&co z (Cq d)then some {ty:=Cq d,size:=inf.size,bytes:=inf.bytes,zero:=z.cells.toList,eq:=eq}else none
    |none=>none
  |_,_=>none
theorem yli{t:TypeId}{eq:Bool}{i:TI}(h:infoOf P t eq=some i):TIok P t i:=by
  unfold infoOf at h;split at h
  · rename_i inf d hinf hd
    split at h
    · rename_i z hz
      cases hb:(Nat.beq z.cells.toList.length inf.size&&(!eq||m7 P t)&&co z (Cq d))with
      |false=>grind
      | true=>
        rw[hb]at h;simp only[cond_true,Faf]at h;subst h;simp only[Fay]at hb;obtain⟨⟨h2,h3⟩,h4⟩:=hb;refine⟨⟨inf,hinf,rfl,rfl,z,hz,rfl⟩,⟨d,hd,rfl⟩,(ve _ _).1 h2,λinf' z' hi' hz'=>?_,λhe=>?_⟩
        · rw[hinf]at hi'
          cases hi';rw[hz]at hz';cases hz';cases z with
          |agg cs=>exact .inl ⟨h4,cs,rfl⟩
          |_=>exact .inr ⟨by simpa [co]using h4,rfl⟩
        simp only[Bool.not_true,Bool.false_or,m7,Fay,Fb9]at h3;grind
    · cases h
  · cases h
inductive Tr where
  |nil
  |node (k:Nat) (l:Tr) (x:TI) (r:Tr)
def Tr.get:Tr->Nat->Option TI
  |.nil,_=>none
  |.node k l x r,t=>bif Nat.beq t k then some x else bif Nat.blt t k then l.get t else r.get t
def Tr.all(P:Program):Tr->Prop
  |.nil=>True
  |.node k l x r=>infoOf P k x.eq=some x/\l.all P/\r.all P
theorem Tr.ok:∀(tr:Tr),tr.all P->y9 P tr.get:=by
  intro tr;induction tr with
  |nil=>intro _ t i h;cases h
  | node k l x r ihl ihr=>
    rintro⟨h1,h2,h3⟩ t i h;simp only[Tr.get]at h;by_cases ht:t=k
    · subst ht
      simp only[Fbr,cond_true,Faf]at h;subst h;exact yli h1
    · simp only[qe ht,cond_false]at h
      cases hb:Nat.blt t k with
      |true=>rw[hb]at h;exact ihl h2 t i h
      |false=>rw[hb]at h;exact ihr h3 t i h
inductive Tr2 where
  |nil
  |node (l:Tr2) (x:Option TI) (r:Tr2)
def Tr.look(P:Program):Tr->Tr2
  |.nil=>.nil
  |.node k l x r=>.node (l.look P) (infoOf P k x.eq) (r.look P)
def Tr.vals:Tr->Tr2
  |.nil=>.nil
  |.node _ l x r=>.node l.vals (some x) r.vals
theorem Tr.of_look:∀(t:Tr),t.look P=t.vals->t.all P
  |.nil,_=>True.intro
  | .node k l x r,h=>by simp only[Tr.look,Tr.vals,Tr2.node.injEq]at h;exact⟨h.2.1,Tr.of_look l h.1,Tr.of_look r h.2.2⟩
end
section
variable {st st':Store} {k:Nat} {v:AV}
def App(k:Nat)(st:Store)(v:AV)(rows:List (List AV))(st':Store):Prop:=
  (v=.s (.slice none 0 0)/\rows=[]/\st'=st)\/Owned k st v rows st'
theorem App.start(k:Nat)(st:Store):App k st (.s (.slice none 0 0)) [] st:=.inl ⟨rfl,rfl,rfl⟩
theorem zzu{b:Nat}{x:Option Nat}(h:st.tok b=none):(st.sT b x).sT b none=st:=by
  unfold Store.sT
  congr
  grind[qe]
theorem App.has{rows:List (List AV)}(h:App k st v rows st'):st'.Has st:=by
  rcases h with⟨_,_,rfl⟩|⟨_,_,rfl⟩|⟨_,b,hb,_,rfl⟩
  · exact Store.Has.refl _
  · exact Store.Has.refl _
  · refine⟨λ_ _ h=>h,λi x h=>?_⟩
    have:i≠b:=λe=>by rw[e,hb.2]at h;cases h
    simpa [Store.sT,qe this]using h
theorem App.le{rows:List (List AV)}(h:App k st v rows st'):AV.le v (.lst k rows none):=by
  rcases h with⟨rfl,rfl,_⟩|⟨rfl,rfl,_⟩|⟨_,b,hb,rfl,_⟩
  · exact AV.le_nil k
  · intro w T v h
    cases h with
    | emp a h=>
      cases a with
      |none=>exact .nil k none
      | some a=>
        obtain⟨b,off,spot⟩:=a;simp_all[VRel.empty]
  · exact AV.le_tok _ _ _
theorem Bj{c:Cfg}{e:TypeId}{ie:TI}{x:LV}{K:Ja}{rows rows':List (List AV)}(h:App ie.size st v rows st')(hie:c.I e=some ie)(hx:Ab ie.size x=some rows')
    (hroom:room (rows.length+rows'.length) ie.bytes) (hK:∀v2 st2,App ie.size st v2 (rows++rows') st2->K v2 st2) {P:Program} (hp:Nat.blt 0 ie.size=true:=by rfl):appendK P c st' e (.av v) x K:=by
  refine⟨.inl (za ie hie ?_)⟩;rcases h with⟨rfl,rfl,rfl⟩|⟨rfl,rfl,rfl⟩|⟨hne,b,hb,rfl,rfl⟩
  · exact za rows' hx ⟨δ,λv st2 ho=>hK v st2 (.inr δ)⟩
  · exact za rows' hx ⟨δ,λv st2 ho=>hK v st2 (.inr δ)⟩
  · show(bif Nat.beq ie.size ie.size&&Nat.blt 0 ie.size then _ else False)
    rw[Fbr,hp,Fdj];refine za rows' hx ⟨by simp[Store.sT],δ,λv st2 ho=>hK v st2 (.inr ?_)⟩
    rwa [zzu hb.2]at ho
end
end Go.V
