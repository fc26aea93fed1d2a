/- Ground of laws of thronglaw30: contracts and plain lemmas; no condition beyond the row's own. -/
import Derived.Laws.Append
import Derived.Tactics
import Derived.RangeFuncLeaves
import Derived.Test.YtieceacpbjcddaaGreatKA
set_option linter.unusedSimpArgs false
set_option linter.unusedVariables false
set_option linter.defProp false
namespace Go.V
section
variable {P:Program} {c:Cfg} {w:World} {Oth M:Nat->Nat->Prop} {st:Store}
theorem CellsRel.mono{T T':Nat->Nat->Prop}(hs:∀b o,T' b o->T b o){l:List AV}{b:Nat}(h:CellsRel w T l b):CellsRel w T' l b:=by
  obtain⟨c,e,fr,h1,h2,h3,h4⟩:=h
  exact⟨c,e,fr,h1,h2,h3,λi x y hx hy=>(h4 i x y hx hy).mono hs⟩
theorem ObjRel.mono{T T':Nat->Nat->Prop}(hs:∀b o,T' b o->T b o){x:AObj}{b:Nat}(h:ObjRel w T x b):ObjRel w T' x b:=by
  cases x with
  |cells l=>exact CellsRel.mono hs h
  | map es bs clock=>
    obtain⟨ms,h1,h2,h3,h4⟩:=h
    exact⟨ms,h1,h2,λi x y hx hy=>⟨(h3 i x y hx hy).1.mono hs,(h3 i x y hx hy).2.mono hs⟩,h4⟩
  |iter m since seen last=>exact h
  |ghost o gh=>exact⟨h.1,λp hp=>(h.2 p hp).mono hs⟩
theorem LRel.mono{T T':Nat->Nat->Prop}(hs:∀b o,T' b o->T b o){β:Nat->Nat}{x:LV}{v:Value}(h:LRel w T β x v):LRel w T' β x v:=by
  cases x with
  |any=>trivial
  |und=>exact h
  |av x=>exact VRel.mono hs h
  |bx k off=>exact h
theorem SimB.shrink{n:SN}{β:Nat->Nat}{A:Fr}{a:Act}(h:SimB n Oth β A st M a w){M':Nat->Nat->Prop}(hs:∀b o,M' b o->M b o)
    (hb:∀k l,A.bx k=some l->∀o,M' (β k) o) (ho:∀b x,st.obj b=some x->∀o,M' b o) (ht:∀b top,st.tok b=some top->∀o,top<=o->M' b o):SimB n Oth β A st M' a w where
  tsz:=h.tsz
  dfr:=h.dfr.sub hs
  tm i:=(h.tm i).mono λb o hm=>hm.imp (hs b o) id
  bx k l hk:=⟨(h.bx k l hk).1.mono λb o hm=>hm.imp (hs b o) id,hb k l hk⟩
  inj:=h.inj
  sep:=h.sep
  sto:=
    { obj:=λb x hx=>⟨(h.sto.obj b x hx).1.mono λb o hm=>hm.imp (hs b o) id,ho b x hx⟩
      tok:=λb top hx=>by
        obtain⟨c,e,fr,h1,h2,h3,h4⟩:=h.sto.tok b top hx
        grind
      mlt:=λb o hm=>h.sto.mlt b o (hs b o hm)
      olt:=h.sto.olt
      dis:=λb o hO hM=>h.sto.dis b o hO (hs b o hM)}
def Rb(M:Nat->Nat->Prop)(B top:Nat):Nat->Nat->Prop:=λb o=>M b o\/(b=B/\top<=o)
theorem se(w:World)(o:Obj)(M:Nat->Nat->Prop)(top:Nat):Chg M w (Rb M w.heap.size top) (w.alloc o):=
  { F7 w o M with
    sub:=λb o' hm hb=>by
      rcases hm with h|h
      · exact h
      · omega}
theorem SimB.newTok{n:SN}{β:Nat->Nat}{A:Fr}{a:Act}(h:SimB n Oth β A st M a w)(cs:Array Value)(e:TypeId)(top:Nat)(htop:top<=cs.size):
    SimB n Oth β A (st.sT w.heap.size (some top)) (Rb M w.heap.size top) a (w.alloc (.cells cs e)):=by
  have hlt:∀b,(st.obj b≠none\/st.tok b≠none)->b<w.heap.size:=λb hb=>by
    rcases hb with hb|hb
    · cases ho:st.obj b with
      |none=>grind
      |some x=>exact(h.sto.obj b x ho).1.lt
    · cases ho:st.tok b with
      |none=>grind
      | some x=>
        obtain⟨c,e,fr,h1,_⟩:=h.sto.tok b x ho
        grind
  have h1:=(h.grow1 (.cells cs e)).shrink (M':=Rb M w.heap.size top) (λb o hm=>hm.imp id λh=>h.1)
    (λk l hk o=>.inl ((h.bx k l hk).2 o)) (λb x hx o=>.inl ((h.sto.obj b x hx).2 o))
    (λb t hx o ho=>by
      obtain⟨c,e,fr,h1,h2,h3,h4⟩:=h.sto.tok b t hx
      exact .inl (h4 o ho))
  refine{h1 with sep:=λk b hk hb he=>?_,sto:={h1.sto with tok:=λb t ht=>?_}}
  · by_cases hbs:b=w.heap.size
    · cases hl:A.bx k with
      |none=>grind
      |some l=>have:=(h.bx k l hl).1.lt;omega
    · refine h.sep k b hk ?_ he
      simpa [Store.sT,ym hbs]using hb
  · by_cases hbs:b=w.heap.size
    · subst hbs
      simp only[Store.sT,Fbo,cond_true,Fag]at ht
      subst ht
      exact⟨cs,e,(0,0),F0 w _,.inl rfl,htop,λo ho=>.inr ⟨rfl,ho⟩⟩
    · simp only[Store.sT,ym hbs,cond_false]at ht
      exact h1.sto.tok b t ht
structure Wrote(w:World)(b o:Nat)(vs:List Value)(w':World):Prop where
  size:w'.heap.size=w.heap.size
  other:∀b',b'≠b->w'.heap[b']?=w.heap[b']?
  blk:∀c e fr,w.heap[b]?=some (.cells c e fr)->∃c',w'.heap[b]?=some (.cells c' e fr)/\c'.toList=c.toList.take o++vs++c.toList.drop (o+vs.length)/\c'.size=c.size
  tape:w'.tape=w.tape
  os:w'.os=w.os
  output:w'.output=w.output
theorem Ox(w:World)(b o:Nat)(v:Value)(b':Nat):(w.setCell ⟨b,o,none⟩ v).heap[b']?=if b'=b then(w.heap[b']?).map (λ|.cells c e fr=>.cells (c.setIfInBounds o v) e fr|x=>x)else w.heap[b']?:=by
  simp only[World.setCell,Fcf]
  grind
theorem Kx(w:World)(b o:Nat):∀(vs:List Value) (i:Nat) (w:World) (c:Array Value) (e:TypeId) (fr:Nat×Nat),w.heap[b]?=some (.cells c e fr)->Bq fr c.size->o+i+vs.length<=c.size->
    (∀v∈vs,ql v=true)->∃w',(storeCells ⟨b,o,none⟩ vs i).run P w=.ok () w'/\Wrote w b (o+i) vs w':=by
  intro vs
  induction vs with
  | nil=>
    intro i w c e fr hw _ _ _
    exact⟨w,by rfl,rfl,λ_ _=>rfl,λc e fr h=>⟨c,h,by simp,rfl⟩,rfl,rfl,rfl⟩
  | cons v vs ih=>
    intro i w c e fr hw hf hlen hone
    simp only[Fbd]at hlen
    have hlt:o+i<c.size:=by omega
    have hcell:w.cell? ⟨b,o+i,none⟩=some c[o+i]:=by simp[World.cell?,hw,hlt]
    have hfz:w.frozen? ⟨b,o+i,none⟩=false:=by grind[World.frozen?,Bq]
    have hst:(store (Addr.add ⟨b,o,none⟩ i) v).run P w=.ok () (w.setCell ⟨b,o+i,none⟩ v):=by
      rw[ki]
      have h1:=hone v (by simp)
      cases v<;>simp[ql]at h1<;>simp[store,Sem.run,hcell,hfz]
    have hw1:(w.setCell ⟨b,o+i,none⟩ v).heap[b]?=some (.cells (c.setIfInBounds (o+i) v) e fr):=by simp_all[Ox]
    obtain⟨w',hr,hwr⟩:=ih (i+1) _ _ e fr hw1 (by grind) (by grind) (λv hv=>hone v (by simp[hv]))
    refine⟨w',by grind[storeCells,Sem.run_bind,Result.andThen_ok],by rw[hwr.size];simp,λb' hb=>by rw[hwr.other b' hb,Ox,if_neg hb],λc₁ e₁ fr₁ hc₁=>?_,by rw[hwr.tape];rfl,by rw[hwr.os];rfl,by rw[hwr.output];rfl⟩
    rw[hw]at hc₁
    cases hc₁
    obtain⟨c',hc',hl,hs⟩:=hwr.blk _ _ _ hw1
    refine⟨c',hc',?_,by grind⟩
    rw[hl,Fdl]
    have hlt':o+i<c.toList.length:=by omega
    apply Fbw
    intro j
    simp only[List.getElem?_append,Fdo,Fce,Fc8,Fad,Fal,Faw,Fbd,Fck]
    grind
theorem Wrote.keeps{b o:Nat}{vs:List Value}{w':World}(h:Wrote w b o vs w'){T:Nat->Nat->Prop}(hb:∀o,T b o):Keeps w T w' T where
  cell b' o' c hc hT:=by
    have hne:b'≠b:=λe=>hT (e▸hb o')
    rw[Ci (h.other b' hne)]
    exact hc
  out b' o' c hc hT:=hT
  shp b' c e fr hw:=by
    by_cases hbb:b'=b
    · subst hbb
      obtain⟨c',h1,_,h2⟩:=h.blk c e fr hw
      grind
    · exact⟨c,fr,by rw[h.other b' hbb];exact hw,rfl⟩
theorem Wrote.chg{b o:Nat}{vs:List Value}{w':World}(h:Wrote w b o vs w')(hb:∀o,M b o):Chg M w M w' where
  size:=by rw[h.size];simp
  keep b' o' _ hm:=Ci (h.other b' λe=>hm (e▸hb o')) o'
  blk b' _ hm:=h.other b' λe=>hm 0 (e▸hb 0)
  shp:=(h.keeps (T:=M) hb).shp
  sub _ _ hm _:=hm
  tape:=h.tape
  os:=h.os
  output:=h.output
theorem CellsRel.wrote{b o:Nat}{vs:List Value}{w':World}{T:Nat->Nat->Prop}(h:Wrote w b o vs w')(hT:∀o,T b o){l xs:List AV}(hl:CellsRel w T l b)(hx:Reads w T xs vs):
    CellsRel w' T (zt l o xs) b:=by
  obtain⟨c,e,fr,h1,h2,h3,h4⟩:=hl
  obtain⟨c',h5,h6,h7⟩:=h.blk c e fr h1
  have hr:Reads w T l c.toList:=⟨by omega,λi x y hx hy=>h4 i x y hx (by grind)⟩
  have hr':Reads w' T (zt l o xs) c'.toList:=by
    rw[h6]
    unfold zt
    refine(((hr.take o).append hx).append ?_).keep (h.keeps hT)
    rw[hx.1]
    exact hr.drop _
  exact⟨c',e,fr,h5,h2,by simpa using hr'.1,λi x y hx hy=>hr'.2 i x y hx (by grind)⟩
theorem StoreOK.wrote{b o:Nat}{vs:List Value}{w':World}(h:StoreOK st Oth M w)(hw:Wrote w b o vs w')(hb:∀o,M b o)(hob:st.obj b=none):StoreOK st Oth M w' where
  obj b' x hx:=by
    have hne:b'≠b:=λe=>by grind
    exact⟨ObjRel.same (h.obj b' x hx).1 (hw.keeps λo=>.inl (hb o)) (hw.other b' hne),(h.obj b' x hx).2⟩
  tok b' top ht:=by
    obtain⟨c,e,fr,h1,h2,h3,h4⟩:=h.tok b' top ht
    by_cases he:b'=b
    · subst he
      obtain⟨c',h5,_,h6⟩:=hw.blk c e fr h1
      grind
    · exact⟨c,e,fr,by rw[hw.other b' he];exact h1,h2,h3,h4⟩
  mlt b' o' hm:=by rw[hw.size];exact h.mlt b' o' hm
  olt b' o' hm:=by rw[hw.size];exact h.olt b' o' hm
  dis:=h.dis
theorem SimB.setBx{n:SN}{β:Nat->Nat}{A:Fr}{a:Act}(h:SimB n Oth β A st M a w){k o:Nat}{l xs:List AV}{vs:List Value}{w':World}(hk:A.bx k=some l)
    (hx:Reads w (λb o=>M b o\/Oth b o) xs vs) (hw:Wrote w (β k) o vs w'):SimB n Oth β (A.setBx k (zt l o xs)) st M a w':=by
  have hM:=(h.bx k l hk).2
  have hT:∀o,M (β k) o\/Oth (β k) o:=λo=>.inl (hM o)
  have hsome:∀k',(A.setBx k (zt l o xs)).bx k'≠none->A.bx k'≠none:=by grind[Fr.setBx,ym]
  have hob:st.obj (β k)=none:=by
    cases ho:st.obj (β k)with
    |none=>rfl
    |some x=>exact absurd rfl (h.sep k (β k) (by grind) (.inl (by grind)))
  exact
    { tsz:=h.tsz
      dfr:=h.dfr.step λD _ _ h2=>⟨hw.other D λe=>(h2 0).1 (e▸hM 0),λo=>(h2 o).1⟩
      tm:=λi=>(h.tm i).keep (hw.keeps hT)
      bx:=λk' l' hk'=>by
        by_cases he:k'=k
        · subst he
          simp only[Fr.setBx,Fbo,cond_true,Fag]at hk'
          subst hk'
          exact⟨CellsRel.wrote hw hT (h.bx k' l hk).1 hx,hM⟩
        · simp only[Fr.setBx,ym he,cond_false]at hk'
          have hne:β k'≠β k:=λe=>he (h.inj k' k (by grind) (by grind) e)
          exact⟨(h.bx k' l' hk').1.same (hw.keeps hT) (hw.other _ hne),(h.bx k' l' hk').2⟩
      inj:=λk1 k2 h1 h2=>h.inj k1 k2 (hsome k1 h1) (hsome k2 h2)
      sep:=λk1 b h1=>h.sep k1 b (hsome k1 h1)
      sto:=h.sto.wrote hw hM hob}
theorem SimB.sO{n:SN}{β:Nat->Nat}{A:Fr}{a:Act}(h:SimB n Oth β A st M a w){b o:Nat}{l xs:List AV}{vs:List Value}{w':World}(hk:st.obj b=some (.cells l))
    (hx:Reads w (λb o=>M b o\/Oth b o) xs vs) (hw:Wrote w b o vs w'):SimB n Oth β A (st.sO b (.cells (zt l o xs))) M a w':=by
  have hM:=(h.sto.obj b _ hk).2
  have hT:∀o,M b o\/Oth b o:=λo=>.inl (hM o)
  exact
    { tsz:=h.tsz
      dfr:=h.dfr.step λD _ _ h2=>⟨hw.other D λe=>(h2 0).1 (e▸hM 0),λo=>(h2 o).1⟩
      tm:=λi=>(h.tm i).keep (hw.keeps hT)
      bx:=λk' l' hk'=>by
        have hne:β k'≠b:=h.sep k' b (by grind) (.inl (by grind))
        exact⟨(h.bx k' l' hk').1.same (hw.keeps hT) (hw.other _ hne),(h.bx k' l' hk').2⟩
      inj:=h.inj
      sep:=λk1 b1 h1 h2=>h.sep k1 b1 h1 (by grind[Store.sO,ym])
      sto:=
        { obj:=λb' x hx'=>by
            by_cases he:b'=b
            · subst he
              simp only[Store.sO,Fbo,cond_true,Fag]at hx'
              subst hx'
              exact⟨CellsRel.wrote hw hT (h.sto.obj b' _ hk).1 hx,hM⟩
            · simp only[Store.sO,ym he,cond_false]at hx'
              exact⟨ObjRel.same (h.sto.obj b' x hx').1 (hw.keeps hT) (hw.other b' he),(h.sto.obj b' x hx').2⟩
          tok:=λb' top ht=>by
            obtain⟨c,e,fr,h1,h2,h3,h4⟩:=h.sto.tok b' top ht
            by_cases he:b'=b
            · subst he
              obtain⟨c',h5,_,h6⟩:=hw.blk c e fr h1
              grind
            · exact⟨c,e,fr,by rw[hw.other b' he];exact h1,h2,h3,h4⟩
          mlt:=λb' o' hm=>by rw[hw.size];exact h.sto.mlt b' o' hm
          olt:=λb' o' hm=>by rw[hw.size];exact h.sto.olt b' o' hm
          dis:=h.sto.dis}}
end
section
variable {P:Program} {c:Cfg} {K:Fr->Store->Prop} {A:Fr} {st:Store}
theorem kb{d n:Nat}{p:Prop}(h:bif Nat.blt d n then p else False):d<n/\p:=by simp_all
theorem yej{o:Oper}{t:TypeId}(ho:o.op=.alloc t)(hI:yh P c.I)
    (h:optK (c.I t) λi=>optK o.dst λd=>bif Nat.blt d c.n then
      (bif c.G.contains d then∀b,Fresh st b->K (A.put d (.av (.s (.pointer (some ⟨b,0,none⟩))))) (st.sO b (.cells (wc i)))
        else K (A.newBx d (wc i)) st)else False):AOp P c.N o K A st:=by
  obtain⟨i,hi,h⟩:=zj h
  obtain⟨d,hd,h⟩:=zj h
  obtain⟨hlt,h⟩:=kb h
  rintro Oth M a w ⟨β,sim⟩
  obtain⟨z,hz1,hz2⟩:=Kw (hI _ _ hi) w
  have hr:(execOp a.eval o).run P w=.ok (.value (.pointer (some ⟨w.heap.size,0,none⟩))) (w.alloc (.cells z.cells t)):=by simp_all[execOp,Instr.alloc,newVar,newRow]
  have hrd:∀T,Reads w T (wc i) z.cells.toList:=λT=>by grind[wc,Reads.map_s]
  unfold Oper.wp
  rw[hr,Oper.upon_value,hd]
  cases hg:c.G.contains d with
  | true=>
    rw[hg]at h
    refine⟨_,_,xu M w.heap.size,h w.heap.size (sim.sto.fresh (Fah _)),⟨β,?_⟩,F7 _ _ _⟩
    exact(sim.newObj _ (.cells (wc i)) (L8 w t M Oth (hrd _))).put hlt (VRel.s _)
  | false=>
    rw[hg]at h
    exact⟨_,_,xu M w.heap.size,h,⟨_,sim.newBx hlt t (hrd _)⟩,F7 _ _ _⟩
theorem yeg{o:Oper}{t:TypeId}{x:Operand}(ho:o.op=.box t x)(hI:yh P c.I)
    (h:optK o.dst λd=>bif Nat.blt d c.n then(match A.ev x with
      | .av x=>optK (cellsOf x) λl=>
        bif c.G.contains d then∀b,Fresh st b->K (A.put d (.av (.s (.pointer (some ⟨b,0,none⟩))))) (st.sO b (.cells l))
        else K (A.newBx d l) st
      |_=>False)else False):AOp P c.N o K A st:=by
  obtain⟨d,hd,h⟩:=zj h
  obtain⟨hlt,h⟩:=kb h
  split at h
  · rename_i y hy
    obtain⟨l,hl,h⟩:=zj h
    rintro Oth M a w ⟨β,sim⟩
    have hv:=yv sim.env hy
    obtain⟨hrd,_⟩:=bo hv hl
    have hr:(execOp a.eval o).run P w=.ok (.value (.pointer (some ⟨w.heap.size,0,none⟩))) (w.alloc (.cells (a.eval x).cells t)):=by
      simp[execOp,ho,Instr.box,newVar,newRow]
    unfold Oper.wp
    rw[hr,Oper.upon_value,hd]
    cases hg:c.G.contains d with
    | true=>
      rw[hg]at h
      refine⟨_,_,xu M w.heap.size,h w.heap.size (sim.sto.fresh (Fah _)),⟨β,?_⟩,F7 _ _ _⟩
      exact(sim.newObj _ (.cells l) (L8 w t M Oth hrd)).put hlt (VRel.s _)
    | false=>
      rw[hg]at h
      exact⟨_,_,xu M w.heap.size,h,⟨_,sim.newBx hlt t hrd⟩,F7 _ _ _⟩
  grind
theorem yeb{o:Oper}{t:TypeId}{p x:Operand}(ho:o.op=.store t p x)(hd:o.dst=none)(hI:yh P c.I)
    (h:optK (c.I t) λi=>match A.ev x with
      |.av x=>Dm i A st (A.ev p) x K
      |_=>False):AOp P c.N o K A st:=by
  obtain⟨i,hi,h⟩:=zj h
  split at h
  · rename_i y hy
    obtain⟨xs,hxs,h⟩:=zj h
    cases hb:(Nat.beq xs.length i.size&&xs.all AV.one)with
    |false=>grind
    |true=>
    rw[hb]at h
    simp only[cond_true]at h
    simp only[Fau]at hb
    have hsz:xs.length=i.size:=(xj _ _).1 hb.1
    rintro Oth M a w ⟨β,sim⟩
    have hv:=yv sim.env hy
    obtain⟨hrd,hone⟩:=bo hv hxs
    have hone':∀v∈(a.eval x).cells.toList,ql v=true:=by
      intro v hv
      obtain⟨j,hj⟩:=Fay.1 hv
      have hjl:j<xs.length:=by rw[hrd.1];grind
      exact Vh (hrd.2 j _ v (Fab hjl) hj) (Fca.1 hb.2 _ (Faa hjl))
    have hvs:(a.eval x).cells.size=i.size:=by rw[<-hsz,hrd.1];simp
    unfold Oper.wp
    split at h
    · rename_i k off hp
      obtain⟨l,hl,h⟩:=zj h
      cases hb2:Nat.ble (off+xs.length) l.length with
      |false=>grind
      |true=>
      rw[hb2]at h
      simp only[cond_true,Da]at h
      have hle:off+xs.length<=l.length:=Fbe hb2
      have hp':a.eval p=.pointer (some ⟨β k,off,none⟩):=by have:=sim.ev p;rw[hp]at this;exact this
      obtain⟨⟨cs,e,fr,h1,h2,h3,h4⟩,hM⟩:=sim.bx k l hl
      obtain⟨w',hr,hw⟩:=Kx (P:=P) w (β k) off (a.eval x).cells.toList 0 w cs e fr h1 (.inl h2) (by grind) hone'
      have hrun:(execOp a.eval o).run P w=.ok .skip w':=by
        simp[execOp,ho,hp',Instr.storeAt,Instr.sureAddr,storeVar,xx (hI _ _ hi),hvs,hr]
      rw[hrun,Oper.upon_skip,hd]
      exact⟨_,_,M,h,⟨β,sim.setBx hl hrd hw⟩,hw.chg hM⟩
    · rename_i b off hp
      obtain⟨ob,hob,h⟩:=zj h
      cases ob with
      |map es bs clock=>grind
      |iter m since seen last=>grind
      |ghost o gh=>grind
      |cells l=>
      obtain⟨hle,h⟩:=h
      rw[Da]at h
      have hp':a.eval p=.pointer (some ⟨b,off,none⟩):=VRel.eq_s (yv sim.env hp)
      obtain⟨⟨cs,e,fr,h1,h2,h3,h4⟩,hM⟩:=sim.sto.obj b _ hob
      obtain⟨w',hr,hw⟩:=Kx (P:=P) w b off (a.eval x).cells.toList 0 w cs e fr h1 (.inl h2) (by grind) hone'
      have hrun:(execOp a.eval o).run P w=.ok .skip w':=by
        simp[execOp,ho,hp',Instr.storeAt,Instr.sureAddr,storeVar,xx (hI _ _ hi),hvs,hr]
      rw[hrun,Oper.upon_skip,hd]
      exact⟨_,_,M,h,⟨β,sim.sO hob hrd hw⟩,hw.chg hM⟩
    grind
  grind
end
section
variable {P:Program} {c:Cfg} {K:Fr->Store->Prop} {A:Fr} {st:Store}
theorem VRel.clos_inv{w:World}{T:Nat->Nat->Prop}{f:FuncId}{cs:List AV}{v:Value}(h:VRel w T (.clos f cs) v):∃c,v=.func (.func f) #[] c/\Reads w T cs c.toList:=by
  cases h with
  |clos _ _ c hl h=>exact⟨c,rfl,by omega,λi x y hx hy=>h i x y hx (by grind)⟩
def inM(M:Nat->Nat->Prop)(A:Fr)(β:Nat->Nat):Nat->Nat->Prop:=λb o=>M b o/\∀k,A.bx k≠none->β k≠b
def Nz(Oth M:Nat->Nat->Prop)(A:Fr)(β:Nat->Nat):Nat->Nat->Prop:=λb o=>Oth b o\/(M b o/\∃k,A.bx k≠none/\β k=b)
theorem Fx{Oth M:Nat->Nat->Prop}{β:Nat->Nat}:∀b o,(inM M A β b o\/Nz Oth M A β b o)->(M b o\/Oth b o):=by
  rintro b o (h|h|h)
  · exact .inl h.1
  · grind
  grind
theorem SimB.inner{n:SN}{Oth M:Nat->Nat->Prop}{β:Nat->Nat}{a:Act}{w:World}(sim:SimB n Oth β A st M a w):StoreOK st (Nz Oth M A β) (inM M A β) w:=
  { obj:=λb x hx=>⟨(sim.sto.obj b x hx).1.mono Fx,λo=>⟨(sim.sto.obj b x hx).2 o,λk hk=>sim.sep k b hk (.inl (by grind))⟩⟩
    tok:=λb top hx=>by
      obtain⟨c,e,fr,h1,h2,h3,h4⟩:=sim.sto.tok b top hx
      exact⟨c,e,fr,h1,h2,h3,λo ho=>⟨h4 o ho,λk hk=>sim.sep k b hk (.inr (by grind))⟩⟩
    mlt:=λb o hm=>sim.sto.mlt b o hm.1
    olt:=λb o hm=>by
      rcases hm with h|h
      · exact sim.sto.olt b o h
      · exact sim.sto.mlt b o h.1
    dis:=λb o hO hM=>by
      rcases hO with h|⟨h,k,hk,he⟩
      · exact sim.sto.dis b o h hM.1
      · exact hM.2 k hk he}
theorem SimB.post{n:SN}{Oth M:Nat->Nat->Prop}{β:Nat->Nat}{a:Act}{w:World}(sim:SimB n Oth β A st M a w){R:Ja}:
    ∀v w',qh st R (Nz Oth M A β) (inM M A β) w v w'->∃r st' M',R r st'/\VRel w' (λb o=>M' b o\/Oth b o) r v/\SimB n Oth β A st' M' a w'/\Chg M w M' w':=by
  rintro v w' ⟨r,st',Mc',hR,hr,hsto,hchg⟩
  let M':Nat->Nat->Prop:=λb o=>Mc' b o\/(M b o/\∃k,A.bx k≠none/\β k=b)
  have hT2:∀b o,(M' b o\/Oth b o)->(Mc' b o\/Nz Oth M A β b o):=by
    rintro b o ((h|h)|h)
    · grind
    · exact .inr (.inr h)
    · exact .inr (.inl h)
  have hblk:∀k,A.bx k≠none->w'.heap[β k]?=w.heap[β k]?:=λk hk=>by
    cases hl:A.bx k with
    |none=>grind
    |some l=>exact hchg.blk _ (sim.bx k l hl).1.lt λo hm=>hm.2 k hk rfl
  have hno:∀k b o,A.bx k≠none->Mc' b o->β k≠b:=λk b o hk hm he=>by
    subst he
    cases hl:A.bx k with
    |none=>grind
    |some l=>exact(hchg.sub _ o hm (sim.bx k l hl).1.lt).2 k hk rfl
  refine⟨r,st',M',hR,hr.mono hT2,?_,?_⟩
  · exact
      { tsz:=sim.tsz
        dfr:=sim.dfr.step λD _ hl h2=>⟨hchg.blk D hl λo hm=>(h2 o).1 hm.1,λo hm=>by
          rcases hm with hm|hm
          · exact(h2 o).1 (hchg.sub D o hm hl).1
          grind⟩
        tm:=λi=>((LRel.mono Fx (sim.tm i)).keep hchg.keeps).mono hT2
        bx:=λk l hl=>by
          have hk:A.bx k≠none:=by grind
          exact⟨(((sim.bx k l hl).1.mono Fx).same hchg.keeps (hblk k hk)).mono hT2,λo=>.inr ⟨(sim.bx k l hl).2 o,k,hk,rfl⟩⟩
        inj:=sim.inj
        sep:=λk b hk hb=>by
          rcases hb with hb|hb
          · cases ho:st'.obj b with
            |none=>grind
            |some x=>exact hno k b 0 hk ((hsto.obj b x ho).2 0)
          · cases ho:st'.tok b with
            |none=>grind
            | some top=>
              obtain⟨c,e,fr,h1,h2,h3,h4⟩:=hsto.tok b top ho
              grind
        sto:=
          { obj:=λb x hx=>⟨(hsto.obj b x hx).1.mono hT2,λo=>.inl ((hsto.obj b x hx).2 o)⟩
            tok:=λb top hx=>by
              obtain⟨c,e,fr,h1,h2,h3,h4⟩:=hsto.tok b top hx
              grind
            mlt:=λb o hm=>by
              rcases hm with h|h
              · exact hsto.mlt b o h
              · exact Nat.lt_of_lt_of_le (sim.sto.mlt b o h.1) hchg.size
            olt:=λb o hm=>Nat.lt_of_lt_of_le (sim.sto.olt b o hm) hchg.size
            dis:=λb o hO hM=>by
              rcases hM with h|h
              · exact hsto.dis b o (.inl hO) h
              · exact sim.sto.dis b o hO h.1}}
  · exact
      { size:=hchg.size
        keep:=λb o hb hm=>hchg.keep b o hb λh=>hm h.1
        blk:=λb hb hm=>hchg.blk b hb λo h=>hm o h.1
        shp:=hchg.shp
        sub:=λb o hm hb=>by
          rcases hm with h|h
          · exact(hchg.sub b o h hb).1
          grind
        tape:=hchg.tape
        os:=hchg.os
        output:=hchg.output}
theorem SimB.call{n:SN}{Oth M:Nat->Nat->Prop}{β:Nat->Nat}{a:Act}{w:World}(sim:SimB n Oth β A st M a w){g:FuncId}{args:List AV}{vs:Array Value}{R:Ja}
    (hc:ACalls P g args st R) (hv:Reads w (λb o=>M b o\/Oth b o) args vs.toList):
    Mj P (λv w'=>∃r st' M',R r st'/\VRel w' (λb o=>M' b o\/Oth b o) r v/\SimB n Oth β A st' M' a w'/\Chg M w M' w') ((callFunc g vs).run P w):=by
  have key:=sim.post (R:=R)
  have hout:=hc.out _ _ w vs sim.inner ⟨hv.1,λi x y hx hy=>(hv.2 i x y hx hy).mono Fx⟩
  generalize(callFunc g vs).run P w=res at*
  cases res with
  |halt h w'=>trivial
  | ok nx w'=>
    cases nx with
    |enter f as=>exact Calls.mono hout λe w'' ⟨v,he,hp⟩=>⟨v,he,key v w'' hp⟩
    |value v=>exact key v w' hout
    |_=>trivial
theorem Py{o:Oper}(hI:yh P c.I)(h:vcX P c o K A st):AOp P c.N o K A st:=by
  obtain⟨vs,hvs,h⟩:=zj h
  rintro Oth M a w ⟨β,sim⟩
  obtain⟨hm1,hm2⟩:=Im hvs
  have hr:Reads w (λb o=>M b o\/Oth b o) vs (o.op.operands.map a.eval).toList:=by
    refine⟨by simp[hm1],λi x y hx hy=>?_⟩
    obtain⟨z,hz,hzz⟩:=hm2 i x hx
    have hz':o.op.operands[i]?=some z:=by grind
    rw[Fcb,Fam,hz]at hy
    simp at hy
    subst hy
    exact yv sim.env (Kn hzz)
  have hout:=h.out _ _ w a.eval hI sim.inner ⟨hr.1,λi x y hx hy=>(hr.2 i x y hx hy).mono Fx⟩
  have key:=sim.post (R:=λr st'=>qb A c.n o.dst (.av r) λA'=>K A' st')
  have fin:∀v w',(∃r st' M',(qb A c.n o.dst (.av r) λA'=>K A' st')/\VRel w' (λb o=>M' b o\/Oth b o) r v/\SimB c.N Oth β A st' M' a w'/\Chg M w M' w')->
      ∃A' st' M',K A' st'/\Sim c.N Oth A' st' M' (a.put o.dst v) w'/\Chg M w M' w':=by
    rintro v w' ⟨r,st',M',hk,hv,hs,hchg⟩
    unfold qb at hk
    cases hd:o.dst with
    |none=>rw[hd]at hk;exact⟨A,st',M',hk,⟨β,hs⟩,hchg⟩
    | some d=>
      rw[hd]at hk
      obtain⟨hlt,hk⟩:=kb hk
      exact⟨_,st',M',hk,⟨β,hs.put hlt hv⟩,hchg⟩
  unfold Oper.wp
  generalize(execOp a.eval o).run P w=res at*
  cases res with
  |halt h w'=>grind
  | ok nx w'=>
    cases nx with
    |value v=>rw[Oper.upon_value];exact fin v w' (key v w' hout)
    | skip=>
      obtain⟨hd,hout⟩:=hout
      rw[Oper.upon_skip]
      have:=fin _ w' (key _ w' hout)
      trivial
    |_=>grind
theorem iq(w:World)(T:Nat->Nat->Prop)(l:List Value):Reads w T (l.map AV.s) l:=⟨by simp,λi x y hx hy=>by
  rw[Fam,hy]at hx
  cases hx
  exact .s _⟩
theorem yai{w:World}{T:Nat->Nat->Prop}{x:LV}{g:FuncId}{fv cap:List AV}{v:Value}(h:O4 x=some (g,fv,cap))(hx:∀y,x=.av y->VRel w T y v):∃f c,v=.func (.func g) f c/\Reads w T fv f.toList/\Reads w T cap c.toList:=by
  unfold O4 at h
  split at h
  · cases h
    obtain⟨c,h1,h2⟩:=VRel.clos_inv (hx _ rfl)
    exact⟨#[],c,h1,Reads.nil,h2⟩
  · cases h
    exact⟨_,_,VRel.eq_s (hx _ rfl),iq _ _ _,iq _ _ _⟩
  · cases h
theorem yef{o:Oper}{cl:Call}{f:Operand}(ho:o.op=.call cl)(hcl:cl.callee=.value f)
    (h:match O4 (A.ev f)with
      | some (g,fv,cap)=>optK (cl.args.toList.mapM λx=>(A.ev x).toAV) λvs=>
        ACalls P g (fv++(vs++cap)) st λr st'=>qb A c.n o.dst (.av r) λA'=>K A' st'
      |_=>False):AOp P c.N o K A st:=by
  split at h
  · rename_i g fv cap hf
    obtain⟨vs,hvs,h⟩:=zj h
    rintro Oth M a w ⟨β,sim⟩
    obtain⟨fvv,capv,hcv,hfr,hcr⟩:=yai hf λx hx=>yv sim.env hx
    obtain⟨hm1,hm2⟩:=Im hvs
    have hr1:Reads w (λb o=>M b o\/Oth b o) vs (cl.args.map a.eval).toList:=by
      refine⟨by simp[hm1],λi x y hx hy=>?_⟩
      obtain⟨z,hz,hzz⟩:=hm2 i x hx
      have hz':cl.args[i]?=some z:=by grind
      rw[Fcb,Fam,hz]at hy
      simp at hy
      subst hy
      exact yv sim.env (Kn hzz)
    have hr:Reads w (λb o=>M b o\/Oth b o) (fv++(vs++cap)) (fvv++(cl.args.map a.eval)++capv).toList:=by
      rw[Fbf,Fbf,Faz]
      exact hfr.append (hr1.append hcr)
    have hrun:(execOp a.eval o).run P w=(callFunc g (fvv++(cl.args.map a.eval)++capv)).run P w:=by grind[execOp,resolve,Deferred.ofValue,invoke]
    have hc:=sim.call h hr
    unfold Oper.wp
    rw[hrun]
    have fin:∀v w',(∃r st' M',(qb A c.n o.dst (.av r) λA'=>K A' st')/\VRel w' (λb o=>M' b o\/Oth b o) r v/\SimB c.N Oth β A st' M' a w'/\Chg M w M' w')->
        ∃A' st' M',K A' st'/\Sim c.N Oth A' st' M' (a.put o.dst v) w'/\Chg M w M' w':=by
      rintro v w' ⟨r,st',M',hk,hv,hs,hchg⟩
      unfold qb at hk
      cases hd:o.dst with
      |none=>rw[hd]at hk;exact⟨A,st',M',hk,⟨β,hs⟩,hchg⟩
      | some d=>
        rw[hd]at hk
        obtain⟨hlt,hk⟩:=kb hk
        exact⟨_,st',M',hk,⟨β,hs.put hlt hv⟩,hchg⟩
    generalize(callFunc g (fvv++(cl.args.map a.eval)++capv)).run P w=res at*
    cases res with
    |halt h w'=>trivial
    | ok nx w'=>
      cases nx with
      | enter f as=>
        rw[Oper.upon_enter]
        exact Calls.mono hc λe w'' ⟨v,he,hp⟩=>by subst he;exact fin v w'' hp
      |value v=>rw[Oper.upon_value];exact fin v w' hc
      |_=>trivial
  grind
theorem yed{o:Oper}{cl:Call}{y:Operand}{m:String}(ho:o.op=.call cl)(hcl:cl.callee=.invoke y m)(h:Oj P c o cl m (A.ev y) K A st):AOp P c.N o K A st:=by
  unfold Oj at h
  split at h
  · rename_i t v hf
    obtain⟨vs,hvs,g,x,⟨u,hm,hu⟩,h⟩:=zj h
    rintro Oth M a w ⟨β,sim⟩
    have hcv:a.eval y=.iface t v:=VRel.eq_s (yv sim.env hf)
    obtain⟨hm1,hm2⟩:=Im hvs
    have hr1:Reads w (λb o=>M b o\/Oth b o) vs (cl.args.map a.eval).toList:=by
      refine⟨by simp[hm1],λi x y hx hy=>?_⟩
      obtain⟨z,hz,hzz⟩:=hm2 i x hx
      have hz':cl.args[i]?=some z:=by grind
      rw[Fcb,Fam,hz]at hy
      simp at hy
      subst hy
      exact yv sim.env (Kn hzz)
    have hr:Reads w (λb o=>M b o\/Oth b o) (x::vs) (#[u]++(cl.args.map a.eval)).toList:=by grind[Reads.cons]
    have hrun:(execOp a.eval o).run P w=(callFunc g (#[u]++(cl.args.map a.eval))).run P w:=by
      have e1:(#[Value.iface t v]++Array.map a.eval cl.args).extract 1 (#[Value.iface t v]++Array.map a.eval cl.args).size=Array.map a.eval cl.args:=by simp
      have e2:execOp a.eval o=callMethod (.iface t v) m ((#[Value.iface t v]++Array.map a.eval cl.args).extract 1 (#[Value.iface t v]++Array.map a.eval cl.args).size):=by
        have e3:(#[Value.iface t v]++Array.map a.eval cl.args)[0]?=some (Value.iface t v):=by simp_all[Fcu]
        simp_all[execOp,resolve,invoke]
      rw[e2,e1]
      simp[callMethod,hm]
    have hc:=sim.call h hr
    unfold Oper.wp
    rw[hrun]
    have fin:∀v w',(∃r st' M',(qb A c.n o.dst (.av r) λA'=>K A' st')/\VRel w' (λb o=>M' b o\/Oth b o) r v/\SimB c.N Oth β A st' M' a w'/\Chg M w M' w')->
        ∃A' st' M',K A' st'/\Sim c.N Oth A' st' M' (a.put o.dst v) w'/\Chg M w M' w':=by
      rintro v w' ⟨r,st',M',hk,hv,hs,hchg⟩
      unfold qb at hk
      cases hd:o.dst with
      |none=>rw[hd]at hk;exact⟨A,st',M',hk,⟨β,hs⟩,hchg⟩
      | some d=>
        rw[hd]at hk
        obtain⟨hlt,hk⟩:=kb hk
        exact⟨_,st',M',hk,⟨β,hs.put hlt hv⟩,hchg⟩
    generalize(callFunc g (#[u]++(cl.args.map a.eval))).run P w=res at*
    cases res with
    |halt h w'=>trivial
    | ok nx w'=>
      cases nx with
      | enter f as=>
        rw[Oper.upon_enter]
        exact Calls.mono hc λe w'' ⟨v,he,hp⟩=>by subst he;exact fin v w'' hp
      |value v=>rw[Oper.upon_value];exact fin v w' hc
      |_=>trivial
  grind
end
section
variable {P:Program} {c:Cfg} {K:Fr->Store->Prop} {A:Fr} {st:Store}
theorem Hg{α:Type}{k:Nat}:∀{rows:List (List α)} (_:∀row∈rows,row.length=k) {i j:Nat} {row:List α} {x:α},rows[i]?=some row->row[j]?=some x->rows.flatten[i*k+j]?=some x:=by
  intro rows
  induction rows with
  |nil=>simp
  | cons r rows ih=>
    intro hk i j row x h1 h2
    have hr:r.length=k:=hk r (by simp)
    cases i with
    | zero=>
      grind
    | succ i=>
      grind
theorem Bn{α:Type}{k:Nat}:∀{rows:List (List α)} (_:∀row∈rows,row.length=k),rows.flatten.length=rows.length*k:=by
  intro rows
  induction rows with
  |nil=>simp
  | cons r rows ih=>
    grind
theorem fx(r l xs:List AV)(o:Nat):zt (r++l) (r.length+o) xs=r++zt l o xs:=by
  unfold zt
  rw[List.take_append,List.drop_append]
  have h1:List.take (r.length+o) r=r:=Fco (by omega)
  have h2:List.drop (r.length+o+xs.length) r=[]:=List.drop_of_length_le (by omega)
  rw[h1,h2]
  have e1:r.length+o-r.length=o:=by omega
  have e2:r.length+o+xs.length-r.length=o+xs.length:=by omega
  grind
theorem yao{k:Nat}{xs:List AV}(hx:xs.length=k):∀{rows:List (List AV)} (_:∀row∈rows,row.length=k) {i:Nat},i<rows.length->(rows.set i xs).flatten=zt rows.flatten (i*k) xs:=by
  intro rows
  induction rows with
  |nil=>simp
  | cons r rows ih=>
    intro hk i hi
    have hr:r.length=k:=hk r (by simp)
    cases i with
    | zero=>
      simp_all[zt]
    | succ i=>
      simp only[List.set_cons_succ,Fdu]
      rw[ih (λrow h=>hk row (by simp[h])) (by grind)]
      rw[<-fx]
      grind
theorem zxn{k n:Nat}:∀(parts:List (Nat×LV)) (acc rows:List (List AV)),(∀row∈acc,row.length=k)->acc.length=n->Fs k n acc parts=some rows->
    F6 (λi=>some (i*k,k)) acc.flatten parts=some rows.flatten/\(∀row∈rows,row.length=k)/\rows.length=n:=by
  intro parts
  induction parts with
  |nil=>intro acc rows h1 h2 h;simp[Fs]at h;subst h;trivial
  | cons p parts ih=>
    intro acc rows h1 h2 h
    obtain⟨i,x⟩:=p
    simp only[Fs]at h
    cases x with
    | av x=>
      simp only at h
      cases hc:cellsOf x with
      |none=>grind
      | some xs=>
        rw[hc]at h
        simp only at h
        cases hb:(Nat.beq xs.length k&&Nat.blt i n)with
        |false=>grind
        | true=>
          rw[hb]at h
          simp only[cond_true]at h
          simp only[Fau]at hb
          have hx:xs.length=k:=(xj _ _).1 hb.1
          have hi:i<n:=Fbe hb.2
          obtain⟨h3,h4,h5⟩:=ih (acc.set i xs) rows (λrow hr=>by grind) (by grind) h
          refine⟨?_,h4,h5⟩
          have hfl:=Bn h1
          have hle:(i+1)*k<=n*k:=Fa5 k hi
          have hb2:(Nat.beq xs.length k&&Nat.ble (i*k+k) acc.flatten.length)=true:=by simp_all[Fcp]
          simp only[F6,hc,hb2,cond_true]
          grind[yao]
    |_=>simp at h
theorem Rp{w:World}{M Oth T':Nat->Nat->Prop}{rows:List (List AV)}{k:Nat}(hk:∀row∈rows,row.length=k){cs:Array Value}{e:TypeId}{cap:Nat}
    (hr:∀(i:Nat) (x:AV),rows.flatten[i]?=some x->∃v,cs[i]?=some v/\VRel w (λb o=>M b o\/Oth b o) x v/\ql v=true) (hcap:rows.length<=cap) (tok:Option Nat)
    (hT:Keeps w (λb o=>M b o\/Oth b o) (w.alloc (.cells cs e)) T') (hno:∀o,o<rows.length*k->¬T' w.heap.size o)
    (htok:∀t,tok=some t->t=w.heap.size/\rows≠[]/\cap*k<=cs.size):
    VRel (w.alloc (.cells cs e)) T' (.lst k rows tok) (.slice (some ⟨w.heap.size,0,none⟩) rows.length cap):=by
  have hlen:=Bn hk
  have hlt:∀(i:Nat) (row:List AV) (j:Nat) (x:AV),rows[i]?=some row->row[j]?=some x->i*k+j<rows.length*k:=by
    intro i row j x h1 h2
    have:=(Faq.1 (Hg hk h1 h2)).1
    omega
  refine VRel.lst rows tok w.heap.size 0 cap k (λj=>cs.getD j undef) hcap (λi row h=>hk row (Fa2 h)) (λt ht=>?_) (λi row j x h1 h2=>?_) (λi row j x h1 h2=>?_) (λi row j x h1 h2=>?_)
  · obtain⟨h1,h2,h3⟩:=htok t ht
    exact⟨h1,rfl,h2,cs,e,(0,0),F0 w _,h3⟩
  · obtain⟨v,hv,_⟩:=hr _ x (Hg hk h1 h2)
    simp_all
  · obtain⟨v,hv,_,hv1⟩:=hr _ x (Hg hk h1 h2)
    simp_all
  · obtain⟨v,hv,hvr,_⟩:=hr _ x (Hg hk h1 h2)
    have:cs.getD (i*k+j) undef=v:=by simp[hv]
    simp only[this]
    exact hvr.keep hT
theorem nl(w:World)(o:Obj)(M Oth:Nat->Nat->Prop)(top:Nat):Keeps w (λb o=>M b o\/Oth b o) (w.alloc o) (λb o=>Rb M w.heap.size top b o\/Oth b o) where
  cell:=(Dt w o M Oth).cell
  out b o' c hc hT hT':=by
    rcases hT' with(h|h)|h
    · grind
    · have:=I8 hc;omega
    grind
  shp:=(Dt w o M Oth).shp
theorem ztw(z:Array Value)(n:Nat)(hz:0<z.size):((Array.range (n*z.size)).map (λi=>z[i%z.size]!)).toList=(List.replicate n z.toList).flatten:=by
  induction n with
  |zero=>simp
  | succ n ih=>
    rw[List.replicate_succ',Fdk,<-ih]
    simp only[Fcb,Array.toList_range,Fcp,Nat.one_mul,List.range_add,Fa3,List.map_map,Fdu,List.flatten_nil,Fc0]
    congr 1
    apply Fbw
    intro i
    simp only[Fam]
    by_cases hi:i<z.size
    · simp[hi,Nat.mod_eq_of_lt hi]
    grind
theorem tq{o:Oper}{t:TypeId}{n:Nat}{parts:Array (Nat×Operand)}(ho:o.op=.buildSlice t n parts)(hI:yh P c.I)
    (h:optK (c.I t) λi=>optK o.dst λd=>bif Nat.blt d c.n then(match i.ty with
      | .slice e=>optK (c.I e) λie=>optK (Fs ie.size n (List.replicate n (wc ie)) (parts.toList.map λp=>(p.1,A.ev p.2))) λrows=>
        bif rows.flatten.all AV.one then n*ie.size<=16777216/\(match rows with
          |[]=>K (A.put d (.av .emp)) st
          | _ ::_=>bif c.G.contains d then(bif c.G.contains (d+1000000)then∀b,Fresh st b->K (A.put d (.av (.s (.slice (some ⟨b,0,none⟩) rows.length rows.length)))) (st.sO b (.cells rows.flatten))
              else∀b,Fresh st b->K (A.put d (.av (.lst ie.size rows (some b)))) (st.sT b (some (rows.length*ie.size))))
            else K (A.put d (.av (.lst ie.size rows none))) st)else False
      |_=>False)else False):AOp P c.N o K A st:=by
  obtain⟨i,hi,h⟩:=zj h
  obtain⟨d,hd,h⟩:=zj h
  obtain⟨hlt,h⟩:=kb h
  split at h
  · rename_i e hty
    obtain⟨ie,hie,h⟩:=zj h
    replace h:=zj h
    obtain⟨rows,hrows,h⟩:=h
    cases hone:rows.flatten.all AV.one with
    |false=>grind
    |true=>
    rw[hone]at h
    simp only[cond_true]at h
    obtain⟨hroom,hK⟩:=h
    rintro Oth M a w ⟨β,sim⟩
    obtain⟨z,hz1,hz2⟩:=Kw (hI _ _ hie) w
    have hzs:z.cells.size=ie.size:=by rw[<-(hI _ _ hie).zsz,<-hz2];simp
    obtain⟨hf1,hf2,hf3⟩:=zxn _ _ rows (λrow hr=>by grind[wc]) (by simp) hrows
    let base:Array Value:=(Array.range (n*ie.size)).map (λi=>(if n*ie.size=0 then #[]else z.cells)[i%(if n*ie.size=0 then #[]else z.cells).size]!)
    have hbase:Reads w (λb o=>M b o\/Oth b o) (List.replicate n (wc ie)).flatten base.toList:=by
      by_cases hn:n=0
      · subst hn
        grind[Reads.nil]
      · by_cases hs0:ie.size=0
        · have e1:base.toList=[]:=by simp[base,hs0]
          simp_all[wc,Reads.nil]
        have hne:¬n*ie.size=0:=by grind[Nat.mul_eq_zero]
        have:base.toList=(List.replicate n z.cells.toList).flatten:=by
          simp only[base,hne,if_false]
          grind[ztw]
        rw[this,hz2]
        have e:(List.replicate n (wc ie)).flatten=(List.replicate n ie.zero).flatten.map AV.s:=by simp_all[wc]
        rw[e]
        exact Reads.map_s _
    have hparts:((parts.toList.map λp=>(p.1,A.ev p.2))).length=(parts.map λ(p:Nat×Operand)=>(p.1,a.eval p.2)).toList.length∧
        ∀(i:Nat) (p:Nat×LV) (v:Nat×Value),(parts.toList.map λp=>(p.1,A.ev p.2))[i]?=some p->(parts.map λ(p:Nat×Operand)=>(p.1,a.eval p.2)).toList[i]?=some v->p.1=v.1/\LRel w (λb o=>M b o\/Oth b o) β p.2 v.2:=by
      refine⟨by simp,λi p v hp hv=>?_⟩
      rw[Fcb,Fam]at hv
      rw[Fam]at hp
      cases hq:parts.toList[i]? with
      |none=>grind
      | some q=>
        rw[hq]at hp hv
        simp at hp hv
        subst hp hv
        exact⟨rfl,sim.ev _⟩
    obtain⟨ds,hds1,hds2⟩:=Ws (β:=β) (place:=λi=>some (i*ie.size,ie.size)) _ _ _ base rows.flatten hparts.1 hparts.2 hbase hf1
    have hrun:(execOp a.eval o).run P w=.ok (.value (.slice (some ⟨w.heap.size,0,none⟩) n n)) (w.alloc (.cells ds e)):=by
      have h1:¬n*ie.size>2^24:=by omega
      simp only[execOp,ho,Instr.buildSlice,Sem.run_bind,z8 (xc (hI _ _ hi) hty),Result.andThen_ok,xx (hI _ _ hie),h1,if_false]
      by_cases hn0:n*ie.size=0
      · have h2:Instr.fill (λi=>some (i*ie.size,ie.size)) (Array.map (λx=>(#[]:Array Value)[x%(#[]:Array Value).size]!) (Array.range (n*ie.size))) (Array.map (λ(x:Nat×Operand)=>(x.1,a.eval x.2)) parts).toList=some ds:=by grind
        simp_all[newRow]
      · have h2:Instr.fill (λi=>some (i*ie.size,ie.size)) (Array.map (λx=>z.cells[x%z.cells.size]!) (Array.range (n*ie.size))) (Array.map (λ(x:Nat×Operand)=>(x.1,a.eval x.2)) parts).toList=some ds:=by grind
        simp_all[newRow]
    unfold Oper.wp
    rw[hrun,Oper.upon_value,hd]
    have hlen:=Bn hf2
    have hdsz:ds.size=n*ie.size:=by
      have:=hds2.1
      grind
    have hread:∀(i:Nat) (x:AV),rows.flatten[i]?=some x->∃v,ds[i]?=some v/\VRel w (λb o=>M b o\/Oth b o) x v/\ql v=true:=λi x hx=>by
      obtain⟨v,hv,hvr⟩:=hds2.getElem? hx
      grind[Vh]
    have hnoT:∀o,¬(M w.heap.size o\/Oth w.heap.size o):=λo h=>by
      rcases h with h|h
      · have:=sim.sto.mlt _ _ h;omega
      · have:=sim.sto.olt _ _ h;omega
    subst hf3
    cases rows with
    |nil=>exact⟨_,_,M,hK,⟨β,(sim.grow (Grow.alloc w _)).put hlt (x:=.av .emp) (VRel.emp _ (λx h=>by grind))⟩,(Grow.alloc w _).chg M⟩
    | cons r rs=>
      cases hg:c.G.contains d with
      | true=>
        cases hg2:c.G.contains (d+1000000)with
        | true=>
          simp only[hg,hg2,cond_true]at hK
          refine⟨_,_,_,hK w.heap.size (sim.sto.fresh (Fah _)),⟨β,(sim.newObj (.cells ds e) (.cells (r::rs).flatten) (L8 w e M Oth hds2)).put hlt (VRel.s _)⟩,F7 _ _ _⟩
        |false=>
        simp only[hg,hg2,cond_true,cond_false]at hK
        refine⟨_,_,_,hK w.heap.size (sim.sto.fresh (Fah _)),⟨β,(sim.newTok ds e ((r::rs).length*ie.size) (by omega)).put hlt ?_⟩,se _ _ _ _⟩
        refine Rp hf2 hread (Fah _) _ (nl _ _ _ _ _) (λo ho hh=>?_) (λt ht=>?_)
        · rcases hh with(h|h)|h
          · grind
          · omega
          grind
        grind
      | false=>
        simp only[hg,cond_false]at hK
        refine⟨_,_,M,hK,⟨β,(sim.grow (Grow.alloc w _)).put hlt ?_⟩,(Grow.alloc w _).chg M⟩
        exact Rp hf2 hread (Fah _) _ ((Grow.alloc w _).keeps _) (λo ho hh=>hnoT o hh) (λt ht=>by cases ht)
  grind
end
section
variable {P:Program} {c:Cfg} {K:Fr->Store->Prop} {A:Fr} {st:Store}
theorem zta(n:Nat)(w:World):(askRoom n).run P w=.ok () w:=by simp
theorem zs9(need old e:Nat)(w:World):∃n,need<=n/\(need<=140737488355328->n<=9223372036854775807)/\(choose (.appendCap need old e)).run P w=.ok n w.drew:=by
  refine⟨need+w.tape w.drawn (.appendCap need old e)%(2^63-need),Nat.le_add_right _ _,λh=>?_,rfl⟩
  have:=Nat.mod_lt (w.tape w.drawn (.appendCap need old e)) (show 0<2^63-need by omega)
  omega
structure AppArgs(P:Program)(c:Cfg)(argTypes:Array TypeId)(args:Array Value)(t e:TypeId)(ie:TI)(base:Option Addr)(sLen sCap:Nat)(xv:Value):Prop where
  ht:argTypes[0]?=some t
  ht1:∃t1 e1,argTypes[1]?=some t1/\P.underlying t1=some (.slice e1)
  hty:P.underlying t=some (.slice e)
  hie:TIok P e ie
  h0:args[0]?=some (.slice base sLen sCap)
  h1:args[1]?=some xv
theorem Kd{argTypes:Array TypeId}{args:Array Value}{t e:TypeId}{ie:TI}{base:Option Addr}{sLen sCap n:Nat}{xv:Value}(ty:TypeId)(h:AppArgs P c argTypes args t e ie base sLen sCap xv){w:World}{old new:Array Value}
    (hlen:(Builtin.lenOf xv).run P w=.ok n w) (hnew:(Builtin.firstCells ie.size n xv).run P w.drew=.ok new w.drew) (hold:(Builtin.firstCells ie.size sLen (.slice base sLen sCap)).run P w.drew=.ok old w.drew)
    (hneed:sCap<sLen+n) (hroom:room (sLen+n) ie.bytes):
    ∃ newCap rest,sLen+n<=newCap/\newCap<=9223372036854775807/\rest.size=(newCap-(sLen+n))*ie.size∧
      (Builtin.append_ argTypes ty args).run P w=.ok (.slice (some ⟨w.heap.size,0,none⟩) (sLen+n) newCap) (w.drew.alloc (.cells (old++new++rest) e)):=by
  obtain⟨newCap,hcap,hcap2,hch⟩:=zs9 (P:=P) (sLen+n) sCap e w
  obtain⟨z,hz1,hz2⟩:=Kw h.hie w.drew
  obtain⟨t1,e1,ht1,hu1⟩:=h.ht1
  obtain⟨inf,hinf,hsz,hby,_⟩:=h.hie.info
  have hzs:z.cells.size=ie.size:=by rw[<-h.hie.zsz,<-hz2];simp
  refine⟨newCap,Builtin.zeroCells z.cells (newCap-(sLen+n)),hcap,hcap2 hroom.2,by simp[Builtin.zeroCells,hzs],?_⟩
  obtain⟨hr1,hr2⟩:=hroom
  have hc1:¬(sLen+n<=sCap):=by omega
  have hc2:¬(((sLen+n:Nat):Int)>IntKind.i64.max):=by grind[IntKind.max,IntKind.bits]
  have hc3:¬(Builtin.nextslicecap (sLen+n) sCap*ie.bytes>2^48):=by
    have h1:=nextslicecap_le hneed
    have h2:Builtin.nextslicecap (sLen+n) sCap*ie.bytes<=2*(sLen+n)*ie.bytes:=Fa5 _ h1
    grind
  have hti:∀w:World,(typeInfo e).run P w=.ok inf w:=λw=>by simp[typeInfo,hinf]
  simp only[Builtin.append_,h.ht,h.h0,h.h1,Sem.run_bind,z8 h.hty,Result.andThen_ok,xx h.hie,ht1,z8 hu1,Sem.run_pure]
  simp only[Fai,if_false,hlen,Result.andThen_ok,hc1,hc2,false_and,Sem.run_bind,hti,hby,hc3,hch,zta,hold,hnew,Bool.not_false,if_true,hz1]
  rfl
theorem Mc{argTypes:Array TypeId}{args:Array Value}{t e:TypeId}{ie:TI}{base:Option Addr}{sLen sCap n:Nat}{xv:Value}(ty:TypeId)(h:AppArgs P c argTypes args t e ie base sLen sCap xv){w w':World}{new:Array Value}
    (hlen:(Builtin.lenOf xv).run P w=.ok n w) (hnew:(Builtin.firstCells ie.size n xv).run P w=.ok new w)
    (hneed:sLen+n<=sCap) (hst:∀a,base=some a->(storeCells (a.add (sLen*ie.size)) new.toList).run P w=.ok () w') (hno:base=none->w'=w):
    (Builtin.append_ argTypes ty args).run P w=.ok (.slice base (sLen+n) sCap) w':=by
  obtain⟨t1,e1,ht1,hu1⟩:=h.ht1
  simp only[Builtin.append_,h.ht,h.h0,h.h1,Sem.run_bind,z8 h.hty,Result.andThen_ok,xx h.hie,ht1,z8 hu1,Sem.run_pure]
  simp only[Fai,if_false,hlen,Result.andThen_ok,hneed,if_true,Bool.not_false,Sem.run_bind,hnew]
  cases base with
  |none=>simp_all
  |some a=>simp_all
theorem O5{α:Type}{k:Nat}:∀{rows:List (List α)} (_:∀row∈rows,row.length=k) {p:Nat} {x:α},rows.flatten[p]?=some x->∃(i j:Nat) (row:List α),p=i*k+j/\rows[i]?=some row/\row[j]?=some x:=by
  intro rows
  induction rows with
  |nil=>simp
  | cons r rows ih=>
    intro hk p x h
    have hr:r.length=k:=hk r (by simp)
    simp only[Fdu]at h
    by_cases hp:p<r.length
    · rw[Far hp]at h
      exact⟨0,p,r,by omega,rfl,h⟩
    · rw[Fax (by omega)]at h
      obtain⟨i,j,row,h1,h2,h3⟩:=ih (λrow h=>hk row (by simp[h])) h
      exact⟨i+1,j,row,by grind,by grind,h3⟩
theorem Wd{w w':World}(h:w'.heap=w.heap)(a:Addr):w'.cell? a=w.cell? a:=by simp only[World.cell?,h]
theorem H0{w:World}{T:Nat->Nat->Prop}{β:Nat->Nat}{k:Nat}{x:LV}{xv:Value}{rows:List (List AV)}(hx:LRel w T β x xv)(h:jv k x=some rows):
    (Builtin.lenOf xv).run P w=.ok rows.length w/\(∀row∈rows,row.length=k)∧
      ∃new:Array Value,Reads w T rows.flatten new.toList/\(∀v∈new.toList,ql v=true)/\new.size=rows.length*k/\∀w',w'.heap=w.heap->(Builtin.firstCells k rows.length xv).run P w'=.ok new w':=by
  unfold jv at h
  split at h
  · rename_i k' rows' tok
    cases hb:Nat.beq k' k with
    |false=>grind
    | true=>
      rw[hb]at h
      simp only[cond_true,Fag]at h
      subst h
      obtain rfl:=(xj _ _).1 hb
      rcases Kf hx with⟨ad,cap,hv,h2,_,rfl⟩|⟨b,off,cap,hv,hcap,hk,f,hf⟩
      · subst h2
        exact⟨by simp[hv,Builtin.lenOf],by simp,#[],Reads.nil,by simp,by simp,λw' _=>by cases ad<;>simp[hv,Builtin.firstCells,loadCells,loadCellsFrom]⟩
      · have hk':∀row∈rows',row.length=k':=λrow hr=>by grind[List.mem_iff_getElem?]
        refine⟨by simp[hv,Builtin.lenOf],hk',((List.range' 0 (rows'.length*k')).map f).toArray,⟨?_,?_⟩,λv hv=>?_,by simp,λw' hw=>?_⟩
        · rw[Bn hk'];simp
        · intro p x y hp hy
          obtain⟨i,j,row,h1,h2,h3⟩:=O5 hk' hp
          grind
        · simp only[Fae]at hv
          obtain⟨p,hp,rfl⟩:=hv
          have hlt:p<rows'.flatten.length:=by rw[Bn hk'];grind
          obtain⟨i,j,row,h1,h2,h3⟩:=O5 hk' (Fab hlt)
          grind
        · have:=H7 (P:=P) ⟨b,off,none⟩ w' f (rows'.length*k') 0 #[] (λp _ hp=>by
            rw[ki,Wd hw]
            have hlt:p<rows'.flatten.length:=by rw[Bn hk'];omega
            obtain⟨i,j,row,h1,h2,h3⟩:=O5 hk' (Fab hlt)
            grind)
          grind[Builtin.firstCells,loadCells]
  · simp at h
    subst h
    have hv:xv=.slice none 0 _:=VRel.eq_s hx
    exact⟨by simp[hv,Builtin.lenOf],by simp,#[],Reads.nil,by simp,by simp,λw' _=>by simp[hv,Builtin.firstCells]⟩
  · simp at h
    subst h
    have hv:∃a,xv=.slice a 0 0:=by
      cases hx with
      |emp a h=>simp
    obtain⟨a,hv⟩:=hv
    refine⟨by simp[hv,Builtin.lenOf],by simp,#[],Reads.nil,by simp,by simp,λw' _=>?_⟩
    cases a with
    |none=>simp[hv,Builtin.firstCells]
    |some a=>simp[hv,Builtin.firstCells,loadCells,loadCellsFrom]
  · cases h
theorem Owned.nil(k:Nat)(st:Store):Owned k st .emp [] st:=.inl ⟨rfl,rfl,rfl⟩
theorem SimB.appendNew{n:SN}{Oth M:Nat->Nat->Prop}{β:Nat->Nat}{a:Act}{w:World}(sim:SimB n Oth β A st M a w){rows:List (List AV)}{k:Nat}(hk:∀row∈rows,row.length=k)(hne:rows≠[])
    {cs:Array Value} {e:TypeId} {cap:Nat} (hr:∀(i:Nat) (x:AV),rows.flatten[i]?=some x->∃v,cs[i]?=some v/\VRel w (λb o=>M b o\/Oth b o) x v/\ql v=true) (hcap:rows.length<=cap) (hsz:cap*k<=cs.size):
    ∃ st' M',Owned k st (.lst k rows (some w.heap.size)) rows st'/\SimB n Oth β A st' M' a (w.drew.alloc (.cells cs e))/\Chg M w M' (w.drew.alloc (.cells cs e))∧
      VRel (w.drew.alloc (.cells cs e)) (λb o=>M' b o\/Oth b o) (.lst k rows (some w.heap.size)) (.slice (some ⟨w.heap.size,0,none⟩) rows.length cap):=by
  have hle:rows.length*k<=cap*k:=Fa5 k hcap
  refine⟨_,_,.inr ⟨hne,w.heap.size,sim.sto.fresh (Fah _),rfl,rfl⟩,(sim.grow (Grow.drew w)).newTok cs e (rows.length*k) (by omega),((Grow.drew w).chg M).trans (se w.drew _ M _),?_⟩
  refine Rp (w:=w.drew) (M:=M) (Oth:=Oth) hk (λi x hx=>?_) hcap _ (nl w.drew _ _ _ _) (λo ho hh=>?_) (λt ht=>?_)
  · obtain⟨v,h1,h2,h3⟩:=hr i x hx
    exact⟨v,h1,h2.keep ((Grow.drew w).keeps _),h3⟩
  · rcases hh with(h|h)|h
    · have:=sim.sto.mlt _ _ h;simp_all
    · omega
    · have:=sim.sto.olt _ _ h;simp_all
  simp_all
theorem getElem?_append3{old new rest:Array Value}{i:Nat}{v:Value}(h:(old.toList++new.toList)[i]?=some v):(old++new++rest)[i]?=some v:=by grind
theorem zal{w:World}{T:Nat->Nat->Prop}{k:Nat}{rows:List (List AV)}{b:Nat}{base:Option Addr}{sLen sCap:Nat}(h:VRel w T (.lst k rows (some b)) (.slice base sLen sCap)):
    base=some ⟨b,0,none⟩/\sLen=rows.length/\rows.length<=sCap/\rows≠[]/\(∀row∈rows,row.length=k)/\(∃c e fr,w.heap[b]?=some (.cells c e fr)/\sCap*k<=c.size)/\∃f:Nat->Value,
      (∀(i:Nat) (row:List AV) (j:Nat) (x:AV),rows[i]?=some row->row[j]?=some x->w.cell? ⟨b,i*k+j,none⟩=some (f (i*k+j))/\¬T b (i*k+j)/\VRel w T x (f (i*k+j))/\ql (f (i*k+j))=true):=by
  cases h with
  | lst _ _ b' off cap _ f hcap hk htok hc h0 hx=>
    obtain⟨rfl,rfl,h1,h2⟩:=htok b rfl
    refine⟨rfl,rfl,hcap,h1,λrow hr=>?_,h2,f,λi row j x h3 h4=>?_⟩
    · grind[List.mem_iff_getElem?]
    grind
theorem ci{n:SN}{Oth M:Nat->Nat->Prop}{β:Nat->Nat}{a:Act}{w:World}(sim:SimB n Oth β A st M a w){argTypes:Array TypeId}{args:Array Value}{t e:TypeId}{ie:TI}{base:Option Addr}{sLen sCap:Nat}{xv:Value}(ty:TypeId)
    (h:AppArgs P c argTypes args t e ie base sLen sCap xv) {x:LV} (hx:LRel w (λb o=>M b o\/Oth b o) β x xv) {rows':List (List AV)} (hs:jv ie.size x=some rows'):
    ((sLen=0/\sCap=0/\∀x,base=some x->x.spot=none)->room rows'.length ie.bytes->∃v w' r st' M',(Builtin.append_ argTypes ty args).run P w=.ok v w'/\Owned ie.size st r rows' st'/\SimB n Oth β A st' M' a w'/\Chg M w M' w'/\VRel w' (λb o=>M' b o\/Oth b o) r v)∧
    (∀rows b,0<ie.size->VRel w (λb o=>M b o\/Oth b o) (.lst ie.size rows (some b)) (.slice base sLen sCap)->st.tok b=some (rows.length*ie.size)->room (rows++rows').length ie.bytes->
      ∃v w' r st' M',(Builtin.append_ argTypes ty args).run P w=.ok v w'/\Owned ie.size (st.sT b none) r (rows++rows') st'/\SimB n Oth β A st' M' a w'/\Chg M w M' w'/\VRel w' (λb o=>M' b o\/Oth b o) r v):=by
  obtain⟨hlen,hk',new,hnr,hone,hns,hnew⟩:=H0 (P:=P) hx hs
  constructor
  · rintro⟨rfl,rfl,hspot⟩ hroom
    by_cases hn:rows'=[]
    · subst hn
      refine⟨_,w,.emp,st,M,Mc ty h (w':=w) hlen (hnew w rfl) (by simp) (λa ha=>?_) (λ_=>rfl),Owned.nil _ _,sim,Chg.refl M w,VRel.emp _ hspot⟩
      simp_all[storeCells]
    · have hpos:0<rows'.length:=List.length_pos_iff.2 hn
      obtain⟨newCap,rest,h1,_,h2,h3⟩:=Kd ty h (old:=#[]) hlen (hnew w.drew rfl) (by cases base<;>simp[Builtin.firstCells,loadCells,loadCellsFrom]) (by omega) (by simpa using hroom)
      simp only[Fbm]at h1 h2 h3
      obtain⟨st',M',ho,hsim,hchg,hv⟩:=sim.appendNew (cs:=#[]++new++rest) (e:=e) (cap:=newCap) hk' hn (λi x hx=>by
        obtain⟨v,hv,hvr⟩:=hnr.getElem? hx
        grind) h1 (by grind[Nat.sub_mul])
      grind
  · intro rows b hpos hsv htb hroom
    obtain⟨rfl,rfl,hcap,hne,hk,⟨c0,e0,fr0,hblk,hcsz⟩,f,hf⟩:=zal hsv
    have hkk:∀row∈rows++rows',row.length=ie.size:=λrow hr=>by grind
    obtain⟨c1,e1,fr1,hb1,hunf,htop,hMtop⟩:=sim.sto.tok b _ htb
    rw[hblk]at hb1
    cases hb1
    -- the first cell
    have hfirst:¬M b 0:=by
      cases rows with
      |nil=>grind
      | cons r rs=>
        have hr:r.length=ie.size:=hk r (by simp)
        cases r with
        |nil=>grind
        | cons y ys=>
          have:=(hf 0 (y::ys) 0 y rfl rfl).2.1
          grind
    have hold:∀p,p<rows.length*ie.size->w.cell? ⟨b,p,none⟩=some (f p)/\¬(M b p\/Oth b p)/\ql (f p)=true/\∀x,rows.flatten[p]?=some x->VRel w (λb o=>M b o\/Oth b o) x (f p):=λp hp=>by
      have hlt:p<rows.flatten.length:=by rw[Bn hk];omega
      obtain⟨i,j,row,h1,h2,h3⟩:=O5 hk (Fab hlt)
      grind
    have holdR:Reads w (λb o=>M b o\/Oth b o) rows.flatten ((List.range' 0 (rows.length*ie.size)).map f):=by
      refine⟨by rw[Bn hk];simp,λp x y hp hy=>?_⟩
      grind
    by_cases hstay:rows.length+rows'.length<=sCap
    · have hle:(rows.length+rows'.length)*ie.size<=sCap*ie.size:=Fa5 _ hstay
      have hdist:(rows.length+rows'.length)*ie.size=rows.length*ie.size+rows'.length*ie.size:=Fcp _ _ _
      have h9:new.toList.length=rows'.length*ie.size:=by omega
      have h10:rows.length*ie.size+0+new.toList.length<=c0.size:=by omega
      obtain⟨w',hrun,hw⟩:=Kx (P:=P) w b (rows.length*ie.size) new.toList 0 w c0 e0 fr0 hblk hunf h10 hone
      simp only[Nat.add_zero]at hw
      have happ:=Mc (P:=P) ty h (w':=w') hlen (hnew w rfl) hstay (λa ha=>by cases ha;rw[ki];grind) (λhh=>by cases hh)
      let M':Nat->Nat->Prop:=λb' o=>M b' o/\¬(b'=b/\o<(rows.length+rows'.length)*ie.size)
      obtain⟨c',hblk',hl',hs'⟩:=hw.blk _ _ _ hblk
      have hcellb:∀o,o<rows.length*ie.size->w'.cell? ⟨b,o,none⟩=w.cell? ⟨b,o,none⟩:=λo ho=>by
        simp only[World.cell?,hblk',hblk]
        rw[<-Fcs,hl',Faz,Far (by grind),Fdo]
        simp[ho]
      have hcelln:∀j v,new[j]?=some v->w'.cell? ⟨b,rows.length*ie.size+j,none⟩=some v:=λj v hv=>by
        have hj:=(Fbl.1 hv).1
        simp only[World.cell?,hblk']
        have hm:min (rows.length*ie.size) c0.size=rows.length*ie.size:=by omega
        have:c'.toList[rows.length*ie.size+j]?=some v:=by grind
        grind
      have hkeep:Keeps w (λb o=>M b o\/Oth b o) w' (λb o=>M' b o\/Oth b o):=
        { cell:=λb' o' v hv hT=>by
            by_cases he:b'=b
            · grind
            · rw[Ci (hw.other b' he)]
              exact hv
          out:=λb' o' v hv hT hT'=>hT (hT'.imp (λh=>h.1) id)
          shp:=λb' c e fr hc=>by
            by_cases he:b'=b
            · grind
            · exact⟨c,fr,by rw[hw.other b' he];exact hc,rfl⟩}
      have hobjb:st.obj b=none:=by
        cases ho:st.obj b with
        |none=>rfl
        |some x=>exact absurd ((sim.sto.obj b x ho).2 0) hfirst
      have hbxb:∀k l,A.bx k=some l->β k≠b:=λk l hl=>sim.sep k b (by grind) (.inr (by grind))
      have hsim:SimB n Oth β A ((st.sT b none).sT b (some ((rows++rows').length*ie.size))) M' a w':=
        { tsz:=sim.tsz
          dfr:=sim.dfr.step λD _ _ h2=>⟨hw.other D λe=>(h2 _).1 (e▸hMtop _ (Fah _)),λo hm=>(h2 o).1 hm.1⟩
          tm:=λi=>(sim.tm i).keep hkeep
          bx:=λk l hl=>⟨(sim.bx k l hl).1.same hkeep (hw.other _ (hbxb k l hl)),λo=>⟨(sim.bx k l hl).2 o,λhh=>hbxb k l hl hh.1⟩⟩
          inj:=sim.inj
          sep:=λk b' hk hb=>by
            refine sim.sep k b' hk ?_
            by_cases he:b'=b
            · grind
            simp_all[Store.sT,ym]
          sto:=
            { obj:=λb' x hx=>by
                have hx':st.obj b'=some x:=hx
                have he:b'≠b:=λe=>by grind
                exact⟨ObjRel.same (sim.sto.obj b' x hx').1 hkeep (hw.other b' he),λo=>⟨(sim.sto.obj b' x hx').2 o,λhh=>he hh.1⟩⟩
              tok:=λb' top ht=>by
                by_cases he:b'=b
                · subst he
                  simp only[Store.sT,Fbo,cond_true,Fag]at ht
                  grind
                · simp only[Store.sT,ym he,cond_false]at ht
                  obtain⟨c,e,fr,h1,h2,h3,h4⟩:=sim.sto.tok b' top ht
                  exact⟨c,e,fr,by rw[hw.other b' he];exact h1,h2,h3,λo ho=>⟨h4 o ho,λhh=>he hh.1⟩⟩
              mlt:=λb' o hm=>by rw[hw.size];exact sim.sto.mlt b' o hm.1
              olt:=λb' o hm=>by rw[hw.size];exact sim.sto.olt b' o hm
              dis:=λb' o hO hM=>sim.sto.dis b' o hO hM.1}}
      have hchg:Chg M w M' w':=
        { size:=by rw[hw.size];simp
          keep:=λb' o hb hm=>by
            by_cases he:b'=b
            · grind
            · exact Ci (hw.other b' he) o
          blk:=λb' hb hm=>hw.other b' λe=>hm (rows.length*ie.size) (by grind)
          shp:=hkeep.shp
          sub:=λb' o hm _=>hm.1
          tape:=hw.tape
          os:=hw.os
          output:=hw.output}
      refine⟨_,w',.lst ie.size (rows++rows') (some b),_,M',happ,.inr ⟨by simp[hne],b,⟨hobjb,by simp[Store.sT]⟩,rfl,rfl⟩,hsim,hchg,?_⟩
      rw[<-Fad]
      have hget:∀p x,(rows++rows').flatten[p]?=some x->∃v,w'.cell? ⟨b,p,none⟩=some v/\¬(M' b p\/Oth b p)/\ql v=true/\VRel w' (λb o=>M' b o\/Oth b o) x v:=λp x hp=>by
        rw[Fdk]at hp
        by_cases hlt:p<rows.length*ie.size
        · rw[Far (by rw[Bn hk];exact hlt)]at hp
          obtain⟨h1,h2,h4,h3⟩:=hold p hlt
          exact⟨f p,by grind,λhh=>h2 (hh.imp (λh=>h.1) id),h4,(h3 x hp).keep hkeep⟩
        · rw[Fax (by rw[Bn hk];omega),Bn hk]at hp
          obtain⟨v,hv,hvr⟩:=hnr.getElem? hp
          have hpl:=(Faq.1 hp).1
          rw[Bn hk']at hpl
          have:=hcelln _ v (by simpa using hv)
          have e:rows.length*ie.size+(p-rows.length*ie.size)=p:=by omega
          rw[e]at this
          refine⟨v,this,λhh=>?_,hone v (Fa2 hv),hvr.keep hkeep⟩
          rcases hh with hh|hh
          · exact hh.2 ⟨rfl,by omega⟩
          · exact sim.sto.dis b p hh (hMtop p (by omega))
      have hlt2:∀(i:Nat) (row:List AV) (j:Nat) (x:AV),(rows++rows')[i]?=some row->row[j]?=some x->(rows++rows').flatten[i*ie.size+j]?=some x:=λi row j x h1 h2=>Hg hkk h1 h2
      refine VRel.lst _ _ b 0 sCap ie.size (λj=>(w'.cell? ⟨b,j,none⟩).getD undef) (by rw[Fad];exact hstay) (λi row hr=>hkk row (Fa2 hr)) (λt ht=>?_) (λi row j x h1 h2=>?_) (λi row j x h1 h2=>?_) (λi row j x h1 h2=>?_)
      · cases ht;exact⟨rfl,rfl,by simp[hne],c',e0,fr0,hblk',by rw[hs'];exact hcsz⟩
      · obtain⟨v,h3,h4,h6,h5⟩:=hget _ x (hlt2 i row j x h1 h2)
        simp only[Fbm,h3,Option.getD_some]
        exact⟨Tv,h4⟩
      · obtain⟨v,h3,h4,h6,h5⟩:=hget _ x (hlt2 i row j x h1 h2)
        simp only[h3,Option.getD_some]
        exact h6
      grind
    · have hold2:(Builtin.firstCells ie.size rows.length (.slice (some ⟨b,0,none⟩) rows.length sCap)).run P w.drew=.ok (((List.range' 0 (rows.length*ie.size)).map f).toArray) w.drew:=by
        have:=H7 (P:=P) ⟨b,0,none⟩ w.drew f (rows.length*ie.size) 0 #[] (λp _ hp=>by
          rw[ki,Fbm]
          exact(hold p (by omega)).1)
        simp only[Builtin.firstCells,loadCells]
        simpa using this
      obtain⟨newCap,rest,h1,_,h2,h3⟩:=Kd ty h hlen (hnew w.drew rfl) hold2 (by omega) (by simpa using hroom)
      have htokless:SimB n Oth β A (st.sT b none) M a w:=
        { sim with
          sep:=λk b' hk hb=>sim.sep k b' hk (hb.imp id λh=>by
            by_cases he:b'=b
            · subst he;rw[htb];simp
            · simpa [Store.sT,ym he]using h)
          sto:=sim.sto.weaken ⟨λ_ _ h=>h,λb' x hx=>by
            by_cases he:b'=b
            · subst he;simp[Store.sT]at hx
            · simpa [Store.sT,ym he]using hx⟩}
      obtain⟨st',M',ho,hsim,hchg,hv⟩:=htokless.appendNew (cs:=((List.range' 0 (rows.length*ie.size)).map f).toArray++new++rest) (e:=e) (cap:=newCap) hkk (by simp[hne]) (λi x hx=>by
        rw[Fdk]at hx
        obtain⟨v,hv,hvr⟩:=(holdR.append hnr).getElem? hx
        refine⟨v,getElem?_append3 (by simpa using hv),hvr,?_⟩
        rcases Fas.1 (Fa2 hv)with hm|hm
        · simp only[Fae]at hm
          obtain⟨p,hp,rfl⟩:=hm
          exact(hold p (by simpa using hp)).2.2.1
        · exact hone v hm) (by rw[Fad];exact h1) (by
          simp only[Array.size_append,hns,h2,List.size_toArray,Fa8,List.length_range']
          have:=Fa5 ie.size h1
          rw[Nat.sub_mul,<-Fcp]
          omega)
      rw[Fad]at hv
      exact⟨_,_,_,st',M',h3,ho,hsim,hchg,hv⟩
end
section
variable {P:Program} {c:Cfg} {K:Fr->Store->Prop} {A:Fr} {st:Store} {Oth M:Nat->Nat->Prop}
theorem Dy{w:World}{b:Nat}{cs:Array Value}{e:TypeId}{fr:Nat×Nat}(h:w.heap[b]?=some (.cells cs e fr))(hf:Bq fr cs.size):
    ∃fr',Bq fr' cs.size/\(w.freeze ⟨b,cs.size,none⟩ 1).heap[b]?=some (.cells cs e fr')/\∀i,i≠b->(w.freeze ⟨b,cs.size,none⟩ 1).heap[i]?=w.heap[i]?:=by
  obtain⟨lo,hi⟩:=fr
  refine⟨if lo==hi then(cs.size,cs.size+1)else(min lo cs.size,max hi (cs.size+1)),?_,?_,λi hi=>?_⟩
  · grind[Bq]
  · simp_all[World.freeze,Fcf]
  simp_all[World.freeze,Fcf,Ne.symm]
theorem o8{w:World}{b:Nat}{cs:Array Value}{e:TypeId}{fr:Nat×Nat}(h:w.heap[b]?=some (.cells cs e fr))(hf:Bq fr cs.size)(b' o:Nat):
    (w.freeze ⟨b,cs.size,none⟩ 1).cell? ⟨b',o,none⟩=w.cell? ⟨b',o,none⟩:=by grind[Dy,World.cell?]
theorem Wl(w:World)(a:Addr)(n:Nat):(w.freeze a n).heap.size=w.heap.size:=by grind[World.freeze]
theorem Iw{w:World}{b:Nat}{cs:Array Value}{e:TypeId}{fr:Nat×Nat}(h:w.heap[b]?=some (.cells cs e fr))(hf:Bq fr cs.size)(T:Nat->Nat->Prop):
    Keeps w T (w.freeze ⟨b,cs.size,none⟩ 1) T where
  cell b' o x hc _:=by rw[o8 h hf];exact hc
  out _ _ _ _ hT:=hT
  shp b' c' e' f' hw:=by
    obtain⟨fr',_,h2,h3⟩:=Dy h hf
    grind
theorem o7{w:World}{b:Nat}{cs:Array Value}{e:TypeId}{fr:Nat×Nat}(h:w.heap[b]?=some (.cells cs e fr))(hf:Bq fr cs.size){T:Nat->Nat->Prop}{l:List AV}{b':Nat}(hb:b'≠b)(hr:CellsRel w T l b'):
    CellsRel (w.freeze ⟨b,cs.size,none⟩ 1) T l b':=by
  obtain⟨fr',h1,h2,h3⟩:=Dy h hf
  obtain⟨c',e',f',h4,h5,h6,h7⟩:=hr
  exact⟨c',e',f',by grind,h5,h6,λi x y hx hy=>(h7 i x y hx hy).keep (Iw h hf T)⟩
theorem SimB.freeze{n:SN}{β:Nat->Nat}{a:Act}{w:World}(s:SimB n Oth β A st M a w){b:Nat}{cs:Array Value}{e:TypeId}{fr:Nat×Nat}(h:w.heap[b]?=some (.cells cs e fr))(hf:Bq fr cs.size)(hno:∃o,¬M b o):
    SimB n Oth β A st M a (w.freeze ⟨b,cs.size,none⟩ 1) where
  tsz:=s.tsz
  dfr:=s.dfr.step λD hD _ h2=>by grind[Dy]
  tm i:=(s.tm i).keep (Iw h hf _)
  bx k l hk:=⟨o7 h hf (λe=>by obtain⟨o,ho⟩:=hno;exact ho (e▸(s.bx k l hk).2 o)) (s.bx k l hk).1,(s.bx k l hk).2⟩
  inj:=s.inj
  sep:=s.sep
  sto:=
    { obj:=λb' x hx=>by
        refine⟨?_,(s.sto.obj b' x hx).2⟩
        have hr:=(s.sto.obj b' x hx).1
        cases x with
        |cells l=>exact o7 h hf (λe=>by obtain⟨o,ho⟩:=hno;exact ho (e▸(s.sto.obj b' _ hx).2 o)) hr
        | ghost o gh=>
          obtain⟨⟨h1,hc⟩,h2⟩:=hr
          have hb:b'≠b:=λhh=>by subst hh;rw[h]at h1;cases h1;cases hc
          obtain⟨fr',_,_,h6⟩:=Dy h hf
          exact⟨⟨by grind,hc⟩,λp hp=>(h2 p hp).keep (Iw h hf _)⟩
        | iter m since seen last=>
          have h1:w.heap[b']?=_:=hr
          have hb:b'≠b:=λhh=>by grind
          obtain⟨fr',_,_,h6⟩:=Dy h hf
          show _=_
          grind
        | map es bs clock=>
          obtain⟨ms,h1,h2,h3,h4⟩:=hr
          have hb:b'≠b:=λhh=>by grind
          obtain⟨fr',_,_,h6⟩:=Dy h hf
          exact⟨ms,by grind,h2,λi x y hx hy=>⟨(h3 i x y hx hy).1.keep (Iw h hf _),(h3 i x y hx hy).2.keep (Iw h hf _)⟩,h4⟩
      tok:=λb' top ht=>by
        obtain⟨c',e',f',h1,h2,h3⟩:=s.sto.tok b' top ht
        grind[Dy]
      mlt:=λb' o hm=>by rw[Wl];exact s.sto.mlt b' o hm
      olt:=λb' o hm=>by rw[Wl];exact s.sto.olt b' o hm
      dis:=s.sto.dis}
theorem yc0{w:World}{b:Nat}{cs:Array Value}{e:TypeId}{fr:Nat×Nat}(h:w.heap[b]?=some (.cells cs e fr))(hf:Bq fr cs.size)(hM:∃o,M b o):Chg M w M (w.freeze ⟨b,cs.size,none⟩ 1) where
  size:=by rw[Wl];simp
  keep b' o _ _:=o8 h hf b' o
  blk b' _ hno:=by grind[Dy]
  shp b' c' e' f' hw:=(Iw h hf (λ_ _=>False)).shp b' c' e' f' hw
  sub _ _ h _:=h
  tape:=by rfl
  os:=by rfl
  output:=by rfl
theorem yee{o:Oper}{s t:TypeId}{x:Operand}(ho:o.op=.convert s t x)(hI:yh P c.I)(h:Pj P c o s t x K A st):AOp P c.N o K A st:=by
  unfold Pj at h
  split at h
  · rename_i k rows b hx
    cases hb:Nat.beq s t with
    |false=>grind
    |true=>
    rw[hb]at h
    simp only[cond_true]at h
    obtain rfl:=(xj _ _).1 hb
    obtain⟨i,hi,h⟩:=zj h
    split at h
    · rename_i e hty
      obtain⟨ie,hie,h⟩:=zj h
      cases hu8:(V8 ie.ty&&Nat.beq k 1)with
      |false=>grind
      |true=>
      rw[hu8]at h
      simp only[cond_true]at h
      obtain⟨top,htop,h⟩:=zj h
      obtain⟨hu8,hk1⟩:=Bool.and_eq_true_iff.1 hu8
      have hk1:=(xj _ _).1 hk1
      have hiety:ie.ty=.int .u8:=by grind[V8]
      rintro Oth M a w ⟨β,sim⟩
      obtain⟨cs,e',fr,h1,h2,h3,h4⟩:=sim.sto.tok b top htop
      have hv:∃n cap,a.eval x=.slice (some ⟨b,0,none⟩) n cap/\∃o,¬M b o:=by
        have hr:=yv sim.env hx
        generalize a.eval x=v at hr
        cases hr with
        | lst _ _ b' off cap _ f hcap hk htok hc h0 hx'=>
          obtain⟨rfl,rfl,hne,_⟩:=htok b rfl
          refine⟨_,_,rfl,?_⟩
          cases rows with
          |nil=>grind
          | cons r rs=>
            have hr1:=hk 0 r rfl
            cases r with
            |nil=>grind
            |cons y ys=>exact⟨_,λhm=>(hc 0 _ 0 y rfl rfl).2 (.inl hm)⟩
      obtain⟨n,cap,hv,hnoM⟩:=hv
      have hsh:w.shape? b=some (e',cs.size):=by simp[World.shape?,h1]
      have hrun:(execOp a.eval o).run P w=.ok (.value (a.eval x)) (w.freeze ⟨b,cs.size,none⟩ 1):=by
        simp[execOp,ho,hv,convert,z8 (xc (hI _ _ hi) hty),z8 (Hv (hI _ _ hie) hiety),markStringish,hsh]
      have sim':=sim.freeze h1 h2 hnoM
      unfold Oper.wp
      rw[hrun,Oper.upon_value]
      have hvr:LRel (w.freeze ⟨b,cs.size,none⟩ 1) (λb o=>M b o\/Oth b o) β (.av (.lst k rows (some b))) (a.eval x):=by
        have:=sim'.ev x
        grind
      have hchg:Chg M w M (w.freeze ⟨b,cs.size,none⟩ 1):=yc0 h1 h2 ⟨top,h4 top (Fah _)⟩
      unfold qb at h
      cases hd:o.dst with
      |none=>rw[hd]at h;exact⟨A,st,M,h,⟨β,sim'⟩,hchg⟩
      | some d=>
        rw[hd]at h
        obtain⟨hlt,h⟩:=kb h
        exact⟨_,st,M,h,⟨β,sim'.put hlt hvr⟩,hchg⟩
    grind
  · exact Py hI h
  · exact Py hI h
  grind[Mf]
end
section
variable {P:Program} {c:Cfg} {K:Fr->Store->Prop} {A:Fr} {st:Store}
theorem yei{o:Oper}{cl:Call}(ho:o.op=.call cl)(hcl:cl.callee=.builtin .append)(hI:yh P c.I)
    (h:optK cl.argTypes[0]? λt=>optK (c.I t) λi=>optK cl.args[0]? λs=>optK cl.args[1]? λx=>match i.ty with
      |.slice e=>bif (cl.argTypes[1]?.bind c.I).any Ks then
          appendK P c st e (A.ev s) (A.ev x) λr st'=>qb A c.n o.dst (.av r) λA'=>K A' st' else vcX P c o K A st
      |_=>False):AOp P c.N o K A st:=by
  obtain⟨t,ht,h⟩:=zj h
  obtain⟨i,hi,h⟩:=zj h
  obtain⟨s,hs,h⟩:=zj h
  obtain⟨x,hx,h⟩:=zj h
  split at h
  · rename_i e hty
    cases hb:(cl.argTypes[1]?.bind c.I).any Ks with
    |false=>rw[hb]at h;exact Py hI h
    |true=>
    rw[hb]at h
    simp only[cond_true]at h
    replace h:=h.out
    rintro Oth M a w ⟨β,sim⟩
    have ht1:∃t1 e1,cl.argTypes[1]?=some t1/\P.underlying t1=some (.slice e1):=by
      cases h1:cl.argTypes[1]? with
      |none=>grind
      | some t1=>
        rw[h1]at hb
        simp only[Option.bind_some]at hb
        cases h2:c.I t1 with
        |none=>grind
        | some j=>
          rw[h2]at hb
          simp only[Option.any_some]at hb
          unfold Ks at hb
          split at hb
          · rename_i e1 h3;exact⟨t1,e1,rfl,xc (hI _ _ h2) h3⟩
          grind
    have hrun:(execOp a.eval o).run P w=((Builtin.append_ cl.argTypes o.type (cl.args.map a.eval)).run P w).andThen λv w'=>.ok (.value v) w':=by simp_all[execOp,resolve,invoke,builtin]
    have fin:∀v w',(∃r st' M',(qb A c.n o.dst (.av r) λA'=>K A' st')/\VRel w' (λb o=>M' b o\/Oth b o) r v/\SimB c.N Oth β A st' M' a w'/\Chg M w M' w')->
        ∃A' st' M',K A' st'/\Sim c.N Oth A' st' M' (a.put o.dst v) w'/\Chg M w M' w':=by
      rintro v w' ⟨r,st',M',hk,hv,hs,hchg⟩
      unfold qb at hk
      cases hd:o.dst with
      |none=>rw[hd]at hk;exact⟨A,st',M',hk,⟨β,hs⟩,hchg⟩
      | some d=>
        rw[hd]at hk
        obtain⟨hlt,hk⟩:=kb hk
        exact⟨_,st',M',hk,⟨β,hs.put hlt hv⟩,hchg⟩
    have h1:(cl.args.map a.eval)[1]?=some (a.eval x):=by grind
    unfold Oper.wp
    rw[hrun]
    rcases h with h|⟨s',x',hes,hex,h⟩
    rotate_left
    · have hvs:=yv sim.env hes
      have hvx:=yv sim.env hex
      have h0:(cl.args.map a.eval)[0]?=some (a.eval s):=by grind
      obtain⟨ie,hie⟩:=h.has
      obtain⟨v,w',hr,hp⟩:=h.out ie hie _ _ w _ _ _ o.type _ t sim.inner (hvs.mono Fx) (hvx.mono Fx) ht ht1 (xc (hI _ _ hi) hty) (hI _ _ hie) h0 h1
      rw[hr]
      exact fin v w' (sim.post v w' hp)
    unfold Pw at h
    obtain⟨ie,hie,h⟩:=zj h
    split at h
    · rename_i hev
      obtain⟨rows,hrows,hroom,h⟩:=zj h
      have hsv:a.eval s=.slice none 0 0:=VRel.eq_s (yv sim.env hev)
      have h0:(cl.args.map a.eval)[0]?=some (.slice none 0 0):=by grind
      obtain⟨v,w',r,st',M',hr,hown,hsim,hchg,hv⟩:=(ci (c:=c) sim o.type ⟨ht,ht1,xc (hI _ _ hi) hty,hI _ _ hie,h0,h1⟩ (sim.ev x) hrows).1 ⟨rfl,rfl,λx h=>by cases h⟩ hroom
      rw[hr]
      exact fin v w' ⟨r,st',M',h r st' hown,hv,hsim,hchg⟩
    · rename_i hev
      obtain⟨rows,hrows,hroom,h⟩:=zj h
      have hsv:∃ad,a.eval s=.slice ad 0 0/\∀x,ad=some x->x.spot=none:=by
        have:=yv sim.env hev
        generalize a.eval s=v at this
        cases this with
        |emp ad h=>grind
      obtain⟨ad,hsv,hspot⟩:=hsv
      have h0:(cl.args.map a.eval)[0]?=some (.slice ad 0 0):=by grind
      obtain⟨v,w',r,st',M',hr,hown,hsim,hchg,hv⟩:=(ci (c:=c) sim o.type ⟨ht,ht1,xc (hI _ _ hi) hty,hI _ _ hie,h0,h1⟩ (sim.ev x) hrows).1 ⟨rfl,rfl,hspot⟩ hroom
      rw[hr]
      exact fin v w' ⟨r,st',M',h r st' hown,hv,hsim,hchg⟩
    · rename_i k rows b hev
      cases hkb:(Nat.beq k ie.size&&Nat.blt 0 ie.size)with
      |false=>grind
      |true=>
      rw[hkb]at h
      simp only[cond_true]at h
      rw[Fau]at hkb
      have hpos:0<ie.size:=Fbe hkb.2
      obtain rfl:=(xj _ _).1 hkb.1
      obtain⟨rows',hrows,htok,hroom,h⟩:=zj h
      have hvr:=yv sim.env hev
      obtain⟨base,sLen,sCap,hsv⟩:∃base sLen sCap,a.eval s=.slice base sLen sCap:=by
        generalize a.eval s=v at hvr
        cases hvr<;>simp
      rw[hsv]at hvr
      have h0:(cl.args.map a.eval)[0]?=some (.slice base sLen sCap):=by grind
      obtain⟨v,w',r,st',M',hr,hown,hsim,hchg,hv⟩:=(ci (c:=c) sim o.type ⟨ht,ht1,xc (hI _ _ hi) hty,hI _ _ hie,h0,h1⟩ (sim.ev x) hrows).2 rows b hpos hvr htok hroom
      rw[hr]
      exact fin v w' ⟨r,st',M',h r st' hown,hv,hsim,hchg⟩
    grind
  grind
theorem i9{o:Oper}{x:LV}{v:Value}{a:Act}{w:World}{Oth M:Nat->Nat->Prop}{β:Nat->Nat}(sim:SimB c.N Oth β A st M a w)(hv:LRel w (λb o=>M b o\/Oth b o) β x v)
    (h:qb A c.n o.dst x λA'=>K A' st):∃A' st' M',K A' st'/\Sim c.N Oth A' st' M' (a.put o.dst v) w/\Chg M w M' w:=by
  unfold qb at h
  cases hd:o.dst with
  |none=>rw[hd]at h;exact⟨A,st,M,h,⟨β,sim⟩,Chg.refl _ _⟩
  | some d=>
    rw[hd]at h
    obtain⟨hlt,h⟩:=kb h
    exact⟨_,st,M,h,⟨β,sim.put hlt hv⟩,Chg.refl _ _⟩
set_option maxHeartbeats 1000000 in
theorem zs5(w:World){t e:TypeId}(hu:P.underlying t=some (.slice e))(ad:Option Addr)(n cap d:Nat):(Op.equalIn (d+1) t (.slice ad n cap) (.slice none 0 0)).run P w=.ok ad.isNone w:=by
  cases ad<;>simp[Op.equalIn,z8 hu]
theorem g9(w:World){t e:TypeId}(hu:P.underlying t=some (.slice e))(ad:Option Addr)(n cap:Nat):
    (binOp .eql t (.slice ad n cap) (.slice none 0 0)).run P w=.ok (.bool ad.isNone) w/\(binOp .neq t (.slice ad n cap) (.slice none 0 0)).run P w=.ok (.bool !ad.isNone) w:=by grind[zs5,binOp,Op.equal,Op.maxDepth,Sem.run_bind,Result.andThen_ok,Sem.run_pure]
theorem yeh{o:Oper}{op:BinOp}{t yt:TypeId}{x y:Operand}(ho:o.op=.binOp op t x y yt)(hI:yh P c.I)
    (h:Ps c o op t x y yt K A st):AOp P c.N o K A st:=by
  unfold Ps at h
  split at h
  · rename_i k rows tok hx hy
    obtain⟨i,hi,h⟩:=zj h
    rintro Oth M a w ⟨β,sim⟩
    have hyv:a.eval y=.slice none 0 0:=VRel.eq_s (yv sim.env hy)
    have hxv:∃ad n cap,a.eval x=.slice ad n cap/\(ad.isNone=true->rows=[]):=by
      rcases Kf (yv sim.env hx)with⟨_,cap,hv,h2,_⟩|⟨b,off,cap,hv,_⟩
      · grind
      grind
    obtain⟨ad,n,cap,hxv,hnil⟩:=hxv
    cases hty:i.ty with
    | slice e=>
      rw[hty]at h
      have hu:=xc (hI _ _ hi) hty
      cases op with
      | eql=>
        have hrun:(execOp a.eval o).run P w=.ok (.value (.bool ad.isNone)) w:=by simp_all[execOp,eqGuard,g9]
        unfold Oper.wp
        rw[hrun,Oper.upon_value]
        exact i9 sim (x:=xg ad.isNone) (VRel.s _) (h _ hnil)
      | neq=>
        have hrun:(execOp a.eval o).run P w=.ok (.value (.bool !ad.isNone)) w:=by simp_all[execOp,eqGuard,g9]
        unfold Oper.wp
        rw[hrun,Oper.upon_value]
        exact i9 sim (x:=xg !ad.isNone) (VRel.s _) (h _ hnil)
      |_=>grind
    |_=>grind
  grind[Mf]
theorem tp(hI:yh P c.I){o:Oper}(h:Av P c o K A st):AOp P c.N o K A st:=by
  unfold Av at h
  cases hx:isX o.op with
  |true=>rw[hx]at h;exact Py hI h
  |false=>
  rw[hx]at h
  replace h:Cm P c o K A st:=h
  unfold Cm at h
  cases ho:o.op with
  |alloc t=>grind[Da,yej]
  |box t x=>grind[yeg]
  |buildSlice t n ps=>simp only[ho]at h;exact tq ho hI h
  | store t p x=>
    simp only[ho]at h
    cases hd:o.dst with
    |some d=>grind
    |none=>rw[hd]at h;exact yeb ho hd hI h
  |binOp op t x y yt=>grind[yeh]
  |convert s t x=>grind[yee]
  | call cl=>
    simp only[ho]at h
    grind[yef,yed,yei,Mf]
  |_=>grind[Mf]
theorem Cfg.noDepth(c:Cfg):c.F.depth.isSome=true->1<=0:=λh=>by cases h
theorem sn{c:Cfg}{f:FuncId}{args:Array Value}{w:World}{R:Ending->World->Prop}(h:Calls P f args w R):CallsIn c.F 0 P f args w R:=
  (callsIn_wide (n:=0)).2 h
theorem ztc{c:Cfg}{row:String}{args:Array Value}{w:World}{R:Value->World->Prop}(h:Rows P row args w R):RowsIn c.F 0 P row args w R:=
  λx cs _=>let⟨v,w',r,s⟩:=h x cs;⟨v,w',r,stepsIn_wide.2 s⟩
theorem Oper.wpIn_F{o:Oper}(hd:∀cl,o.op≠.defer cl){a:Act}{w:World}{K:Act->World->Prop}{Q:Exit->Act->World->Prop}(h:o.wp P a w K Q):o.wpIn c.F 0 P a w K Q:=by
  refine⟨λ_ _=>Tv,?_⟩
  rw[Oper.semAt_eq _ _ _ hd]
  unfold Oper.wp at h
  generalize(execOp a.eval o).run P w=r at*
  cases r with
  | ok x w'=>
    cases x<;>simp only[Oper.upon,Oper.uponIn]at h⊢<;>
      first
        |exact h
        |exact⟨c.noDepth,sn h⟩
        |exact⟨c.noDepth,ztc h⟩
        |exact h.elim
  |halt x w'=>cases x<;>trivial<;>exact h
theorem zvz{o:Oper}(h:Av P c o K A st)(cl:Call):o.op≠.defer cl:=by
  intro e
  unfold Av at h
  rw[e]at h
  have h:Cm P c o K A st:=h
  unfold Cm at h
  simp only[e]at h
  obtain⟨d,_,h⟩:=zj h
  obtain⟨_,h⟩:=kb h
  exact h.elim
theorem uf{o:Oper}{l:Nat}(h:Ri A o.op=some l):∃cl f fv cap,o.op=.call cl/\cl.callee=.value f/\A.ev f=.av (.s (.func (.yield l) fv cap))/\fv=#[]/\cap=#[]:=by
  unfold Ri at h
  split at h
  · rename_i cl hop
    split at h
    · rename_i f hcl
      split at h
      · rename_i l' fv cap hev
        cases hb:(Nat.beq fv.size 0&&Nat.beq cap.size 0)with
        |false=>grind
        | true=>
          simp_all
      · cases h
    · cases h
  · cases h
theorem ztf{l:Nat}{f:FuncId}{tmps:Array Value}{assign body:Code}{w:World}{R:Ending->World->Prop}(h:RoundIn Fence.wide 0 P l f tmps assign body w R):RoundIn c.F 0 P l f tmps assign body w R:=h
theorem yek(hI:yh P c.I){o:Oper}(h:Hu P c o K A st):yfc P c o K A st:=by
  unfold Hu at h
  split at h
  rotate_left
  · exact λOth M a w sim=>Oper.wpIn_F (zvz h) (tp hI h Oth M a w sim)
  · rename_i l hl
    obtain⟨cl,f,fv,cap,ho,hcl,hf,rfl,rfl⟩:=uf hl
    rintro Oth M a w ⟨β,sim⟩
    obtain⟨vs,hvs,h⟩:=zj h
    unfold cq at hvs
    rw[ho]at hvs
    have hfv:a.eval f=.func (.yield l) #[] #[]:=VRel.eq_s (yv sim.env hf)
    obtain⟨hm1,hm2⟩:=Im hvs
    have hr1:Reads w (λb o=>M b o\/Oth b o) vs (cl.args.map a.eval).toList:=by
      refine⟨by simp[hm1],λi x y hx hy=>?_⟩
      obtain⟨z,hz,hzz⟩:=hm2 i x hx
      have hz':cl.args[i]?=some z:=by grind
      rw[Fcb,Fam,hz]at hy
      simp at hy
      subst hy
      exact yv sim.env (Kn hzz)
    have hrun:(execOp a.eval o).run P w=(Instr.yield l (cl.args.map a.eval)).run P w:=by grind[execOp,resolve,Deferred.ofValue,invoke]
    obtain⟨fn,tmps,assign,body,hy,hround⟩:=h.out _ _ w (cl.args.map a.eval) sim.inner ⟨hr1.1,λi x y hx hy=>(hr1.2 i x y hx hy).mono Fx⟩
    refine⟨λ_ _=>Tv,?_⟩
    rw[Oper.semAt_eq _ _ _ (by grind),hrun,hy,Oper.uponIn_round]
    refine⟨c.noDepth,ztf (hround.mono ?_)⟩
    rintro e w' ⟨v,rfl,hp⟩
    obtain⟨r,st',M',hk,hv,hs,hchg⟩:=sim.post v w' hp
    show∃A' st' M',_
    unfold qb at hk
    cases hd:o.dst with
    |none=>rw[hd]at hk;exact⟨A,st',M',hk,⟨β,hs⟩,hchg⟩
    | some d=>
      rw[hd]at hk
      obtain⟨hlt,hk⟩:=kb hk
      exact⟨_,st',M',hk,⟨β,hs.put hlt hv⟩,hchg⟩
end
def Kt(c:Cfg)(o:Oper)(A:Fr)(K:Fr->Prop):Prop:=qb A c.n o.dst .und K
def wd(P:Program)(c:Cfg)(ops:Array Oper)(K:Fr->Store->Prop):List Oper->Fr->Store->Prop
  |[],A,st=>K A st
  | o::rest,A,st=>
    match o.guard with
    |none=>Hu P c o (wd P c ops K rest) A st
    | some (j,want)=>optK ((ops[j]?).bind (·.dst)) λt=>
      match A.t t with
      |.av (.s (.bool b))=>Aq b
          (bif want then Hu P c o (wd P c ops K rest) (A.put t (xg true)) st else Kt c o (A.put t (xg true)) λA'=>wd P c ops K rest A' st)
          (bif want then Kt c o (A.put t (xg false)) λA'=>wd P c ops K rest A' st else Hu P c o (wd P c ops K rest) (A.put t (xg false)) st)
      |.und=>Kt c o A λA'=>wd P c ops K rest A' st
      |_=>False
structure AWp(P:Program)(c:Cfg)(code:Code)(Q:Exit->Fr->Store->Prop)(A:Fr)(st:Store):Prop where
  out:∀Oth M a w,Sim c.N Oth A st M a w->code.wpIn c.F 0 P (λe a' w'=>∃A' st' M',Q e A' st'/\Sim c.N Oth A' st' M' a' w'/\Chg M w M' w') a w
structure ADraw(P:Program)(c:Cfg)(ops:Array Oper)(K:Fr->Store->Prop)(A:Fr)(st:Store):Prop where
  out:∀id,AWp P c (.region id ops true) (λe A' st'=>match e with|.normal=>K A' st'|_=>False) A st
def Mx(next:Fr->Store->Prop)(Q:Exit->Fr->Store->Prop):Exit->Fr->Store->Prop
  |.normal=>next
  |e=>Q e
def Om(id:Nat)(Q:Exit->Fr->Store->Prop):Exit->Fr->Store->Prop
  |.exit id'=>bif Nat.beq id' id then Q .normal else Q (.exit id')
  |e=>Q e
def zv0(Q:Exit->Fr->Store->Prop):Exit->Fr->Store->Prop
  |.goto _=>λ_ _=>False
  |e=>Q e
def vc(P:Program)(c:Cfg):Code->(Exit->Fr->Store->Prop)->Fr->Store->Prop
  |.skip,Q,A,st=>Q .normal A st
  | .region _ ops draw,Q,A,st=>match draw with
    |false=>wd P c ops (Q .normal) ops.toList A st
    |true=>ADraw P c ops (Q .normal) A st
  |.seq a b,Q,A,st=>vc P c a (Mx (vc P c b Q) Q) A st
  | .cond x a b,Q,A,st=>match A.ev x with
    |.av (.s (.bool t))=>Aq t (vc P c a Q A st) (vc P c b Q A st)
    |_=>False
  |.block id b,Q,A,st=>vc P c b (Om id Q) A st
  |.loop b,Q,A,st=>AWp P c (.loop b) Q A st
  |.exit id,Q,A,st=>Q (.exit id) A st
  |.scope b,Q,A,st=>vc P c b (zv0 Q) A st
  |.label _,Q,A,st=>Q .normal A st
  |.ret,Q,A,st=>Q .ret A st
  |_,_,_,_=>False
section
variable {P:Program} {c:Cfg}
theorem Fr.put_self{A:Fr}{d:Nat}{x:LV}(h:A.t d=x):A.put d x=A:=by
  unfold Fr.put
  congr
  grind[ym]
theorem oo{ops:Array Oper}{tmps:Array Value}{j t:Nat}{b:Bool}(hd:(ops[j]?).bind (·.dst)=some t)(h:tmps.getD t undef=.bool b):yielded ops tmps j=some b:=by
  unfold yielded
  rw[hd]
  simp only[Option.bind_some]
  rw[Fba]at h
  grind[undef]
theorem om{ops:Array Oper}{tmps:Array Value}{j t:Nat}(hd:(ops[j]?).bind (·.dst)=some t)(h:tmps.getD t undef=undef):yielded ops tmps j=none:=by
  unfold yielded
  rw[hd]
  simp only[Option.bind_some]
  rw[Fba]at h
  cases ht:tmps[t]? with
  |none=>rfl
  |some v=>rw[ht]at h;simp at h;subst h;rfl
theorem Mk{o:Oper}{a:Act}{w:World}{K K':Act->World->Prop}{Q Q':Exit->Act->World->Prop}(hk:∀a w,K a w->K' a w)(hn:∀e a w,e≠.normal->¬Q e a w)(h:o.wpIn c.F 0 P a w K Q):o.wpIn c.F 0 P a w K' Q':=by
  refine⟨h.1,?_⟩
  have h:=h.2
  generalize(o.semAt c.F.round a.eval).run P w=r at*
  have nq:∀(e:Exit) (a:Act) (w:World) {p:Prop},e≠.normal->Q e a w->p:=λe a w p hne h=>(hn e a w hne h).elim
  cases r with
  | ok x w'=>
    cases x<;>simp only[Oper.uponIn]at h⊢<;>
      first
        |exact hk _ _ h
        |exact⟨h.1,CallsIn.mono h.2 (λe w'' he=>by
            cases e with
            |returned v=>exact hk _ _ he
            |panicked ch=>exact nq _ _ _ (by simp) he
            |outgrown=>obtain⟨a2,w2,h2⟩:=he;exact nq _ _ _ (by simp) h2)⟩
        |exact⟨h.1,RowsIn.mono h.2 (λ_ _ he=>hk _ _ he)⟩
        |exact⟨h.1,RoundIn.mono h.2 (λe w'' he=>by
            cases e with
            |returned v=>exact hk _ _ he
            |panicked ch=>exact nq _ _ _ (by simp) he
            |outgrown=>obtain⟨a2,w2,h2⟩:=he;exact nq _ _ _ (by simp) h2)⟩
        |exact h
  |halt x w'=>cases x<;>simp only[Oper.uponIn]at h⊢<;>grind
theorem dl(hI:yh P c.I)(ops:Array Oper)(K:Fr->Store->Prop):∀(l:List Oper) (A:Fr) (st:Store),wd P c ops K l A st->
    ∀Oth M a w,Sim c.N Oth A st M a w->wpListIn c.F 0 P ops (λe a' w'=>e=.normal/\∃A' st' M',K A' st'/\Sim c.N Oth A' st' M' a' w'/\Chg M w M' w') l a w:=by
  intro l
  induction l with
  |nil=>intro A st h Oth M a w sim;exact⟨rfl,A,st,M,h,sim,Chg.refl M w⟩
  | cons o rest ih=>
    intro A st h Oth M a w sim
    have mono:∀(M':Nat->Nat->Prop) (w':World) (a':Act) (A':Fr) (st':Store),wd P c ops K rest A' st'->Sim c.N Oth A' st' M' a' w'->Chg M w M' w'->
        wpListIn c.F 0 P ops (λe a' w'=>e=.normal/\∃A' st' M',K A' st'/\Sim c.N Oth A' st' M' a' w'/\Chg M w M' w') rest a' w':=by
      intro M' w' a' A' st' h1 h2 h3
      have:=ih A' st' h1 Oth M' a' w' h2
      clear h h1
      -- weaken the post
      have wm:∀(l:List Oper) (a w0) (Q Q':Exit->Act->World->Prop),(∀e a w,Q e a w->Q' e a w)->(∀e a w,e≠.normal->¬Q e a w)->wpListIn c.F 0 P ops Q l a w0->wpListIn c.F 0 P ops Q' l a w0:=by
        intro l
        induction l with
        |nil=>intro a w0 Q Q' hq _ h;exact hq _ _ _ h
        | cons o l ihl=>
          intro a w0 Q Q' hq hn h
          unfold wpListIn at h⊢
          split
          · rename_i hw
            rw[if_pos hw]at h
            grind[Mk]
          grind
      refine wm rest a' w' _ _ ?_ ?_ this
      · rintro e a w ⟨he,A',st',M'',h4,h5,h6⟩
        exact⟨he,A',st',M'',h4,h5,h3.trans h6⟩
      grind
    -- an operation that is carried out
    have go:∀A1,Hu P c o (wd P c ops K rest) A1 st->Sim c.N Oth A1 st M a w->Region.wanted o (yielded ops a.tmps)=true->
        wpListIn c.F 0 P ops (λe a' w'=>e=.normal/\∃A' st' M',K A' st'/\Sim c.N Oth A' st' M' a' w'/\Chg M w M' w') (o::rest) a w:=by
      intro A1 h1 sim1 hw
      unfold wpListIn
      rw[if_pos hw]
      exact Mk (λa' w' ⟨A',st',M',h3,h4,h5⟩=>mono M' w' a' A' st' h3 h4 h5) (λ_ _ _ _ h=>h) (yek hI h1 Oth M a w sim1)
    have skip:∀A1,(Kt c o A1 λA'=>wd P c ops K rest A' st)->Sim c.N Oth A1 st M a w->Region.wanted o (yielded ops a.tmps)=false->
        wpListIn c.F 0 P ops (λe a' w'=>e=.normal/\∃A' st' M',K A' st'/\Sim c.N Oth A' st' M' a' w'/\Chg M w M' w') (o::rest) a w:=by
      intro A1 h1 sim1 hw
      unfold wpListIn
      rw[if_neg (by grind)]
      refine⟨λ_ _=>Tv,?_⟩
      obtain⟨β,sim1⟩:=sim1
      unfold Kt qb at h1
      cases hd:o.dst with
      |none=>rw[hd]at h1;exact mono M w _ A1 st h1 ⟨β,sim1⟩ (Chg.refl _ _)
      | some d=>
        rw[hd]at h1
        obtain⟨hlt,h1⟩:=kb h1
        exact mono M w _ _ st h1 ⟨β,sim1.put hlt (x:=.und) rfl⟩ (Chg.refl _ _)
    unfold wd at h
    cases hg:o.guard with
    | none=>
      grind[Region.wanted]
    | some jw=>
      obtain⟨j,want⟩:=jw
      rw[hg]at h
      obtain⟨t,ht,h⟩:=zj h
      have hwant:∀y,yielded ops a.tmps j=y->Region.wanted o (yielded ops a.tmps)=(y==some want):=λy hy=>by simp[Region.wanted,hg,hy]
      split at h
      · rename_i b hb
        have htv:a.tmps.getD t undef=.bool b:=by
          obtain⟨β,s⟩:=sim
          have:=s.tm t
          rw[hb]at this
          exact VRel.eq_s this
        have hw:=hwant _ (oo ht htv)
        cases b with
        | true=>
          rw[Fr.put_self (A:=A) (x:=xg true) hb]at h
          cases want with
          |true=>exact go A h sim (by grind)
          |false=>exact skip A h sim (by grind)
        | false=>
          rw[Fr.put_self (A:=A) (x:=xg false) hb]at h
          cases want with
          |true=>exact skip A h sim (by grind)
          |false=>exact go A h sim (by grind)
      · rename_i hb
        have htv:a.tmps.getD t undef=undef:=by
          obtain⟨β,s⟩:=sim
          have:=s.tm t
          rw[hb]at this
          exact this
        grind[om]
      grind
end
section
variable {P:Program} {c:Cfg}
theorem Code.wpF_mono{F:Fence}{code:Code}{Q Q':Exit->Act->World->Prop}{a:Act}{w:World}(hq:∀e a w,Q e a w->Q' e a w)(h:code.wpIn F 0 P Q a w):code.wpIn F 0 P Q' a w:=wpIn_mono h hq
theorem um{F:Fence}{n:Nat}{code:Code}{Q:Exit->Act->World->Prop}{a:Act}{w:World}(h:code.wpIn F n P (Exit.noGoto Q) a w):(Code.scope code).wpIn F n P Q a w:=by
  intro b k cs hro hb hr
  have s1:step P (lone (b.atR a (.code (.scope code)::k)) cs w)=.next (lone (b.atR a (.code code::.inScope code::k)) cs w):=step_lone_go (by rfl)
  have h0:(lone (b.atR a (.code (.scope code)::k)) cs w).fenced P F:=fenced_calm hb hr rfl
  obtain⟨e,a₁,w₁,hq,harr⟩:=h b (.inScope code::k) cs hro hb hr
  cases e with
  | normal=>
    have s2:step P (lone (b.atR a₁ (.inScope code::k)) cs w₁)=.next (lone (b.atR a₁ k) cs w₁):=step_lone_go (by rfl)
    exact⟨.normal,a₁,w₁,hq,.head h0 s1 (StepsIn.trans harr (.one (fenced_calm hb hr rfl) s2))⟩
  | exit id=>
    have hx:exitTo id (.inScope code::k)=exitTo id k:=by rfl
    exact⟨.exit id,a₁,w₁,hq,λk' hk=>.head h0 s1 (harr.1 k' (by grind)),λhr' hk=>let⟨k₁,h1,h2⟩:=harr.2 hr' (by grind);⟨k₁,h1,.head h0 s1 h2⟩⟩
  |goto l=>trivial
  |ret=>exact⟨_,a₁,w₁,hq,.of_steps (.one h0 s1) harr⟩
  |panic ch=>exact⟨_,a₁,w₁,hq,.of_steps (.one h0 s1) harr⟩
  |outgrown=>exact⟨_,a₁,w₁,hq,.of_steps (.one h0 s1) harr⟩
theorem AWp.mono{code:Code}{Q Q':Exit->Fr->Store->Prop}{A:Fr}{st:Store}(h:AWp P c code Q A st)(hq:∀e A st,Q e A st->Q' e A st):AWp P c code Q' A st:=
  ⟨λOth M a w sim=>Code.wpF_mono (λe a' w' ⟨A',st',M',h1,h2,h3⟩=>⟨A',st',M',hq _ _ _ h1,h2,h3⟩) (h.out Oth M a w sim)⟩
theorem uj{F:Fence}{ops:Array Oper}{id:Nat}{Q:Exit->Act->World->Prop}{R:Act->World->Prop}{a:Act}{w:World}(h:wpListIn F 0 P ops (λe a' w'=>e=.normal/\R a' w') ops.toList a w)(hq:∀a w,R a w->Q .normal a w):(Code.region id ops false).wpIn F 0 P Q a w:=
  Code.wpF_mono (λe a' w' ⟨he,hr⟩=>by grind) (wpIn_region_list h)
theorem Rq(hI:yh P c.I):∀(code:Code) (Q:Exit->Fr->Store->Prop) (A:Fr) (st:Store),vc P c code Q A st->AWp P c code Q A st:=by
  intro code
  induction code with
  |skip=>intro Q A st h;exact⟨λOth M a w sim=>wpIn_skip ⟨A,st,M,h,sim,Chg.refl _ _⟩⟩
  | region id ops draw=>
    intro Q A st h
    cases draw with
    |false=>exact⟨λOth M a w sim=>uj (dl hI ops (Q .normal) ops.toList A st h Oth M a w sim) λ_ _ h=>h⟩
    |true=>exact(ADraw.out h id).mono λe A' st' h'=>by grind
  | seq x y ihx ihy=>
    intro Q A st h
    refine⟨λOth M a w sim=>wpIn_seq ?_⟩
    refine Code.wpF_mono ?_ ((ihx _ A st h).out Oth M a w sim)
    rintro e a' w' ⟨A',st',M',h1,h2,h3⟩
    cases e with
    | normal=>
      refine Code.wpF_mono ?_ ((ihy _ A' st' h1).out Oth M' a' w' h2)
      rintro e a'' w'' ⟨A'',st'',M'',h4,h5,h6⟩
      exact⟨A'',st'',M'',h4,h5,h3.trans h6⟩
    |_=>exact⟨A',st',M',h1,h2,h3⟩
  | cond x p q ihp ihq=>
    intro Q A st h
    simp only[vc]at h
    split at h
    · rename_i t ht
      refine⟨λOth M a w sim=>?_⟩
      have hv:a.eval x=.bool t:=by
        obtain⟨β,s⟩:=sim
        exact VRel.eq_s (yv s.env ht)
      refine wpIn_cond hv ?_
      cases t with
      |true=>exact(ihp Q A st h).out Oth M a w sim
      |false=>exact(ihq Q A st h).out Oth M a w sim
    grind
  | block id b ih=>
    intro Q A st h
    refine⟨λOth M a w sim=>wpIn_block ?_⟩
    refine Code.wpF_mono ?_ ((ih _ A st h).out Oth M a w sim)
    rintro e a' w' ⟨A',st',M',h1,h2,h3⟩
    cases e with
    | exit id'=>
      simp only[Om]at h1
      simp only[Exit.inBlock]
      by_cases he:id'=id
      · subst he
        simp only[Fbo,cond_true]at h1
        grind
      · simp only[ym he,cond_false]at h1
        grind
    |_=>exact⟨A',st',M',h1,h2,h3⟩
  |loop b ih=>intro Q A st h;exact h
  |rangeFunc f ps x y ihx ihy=>intro Q A st h;exact h.elim
  |exit id=>intro Q A st h;exact⟨λOth M a w sim=>wpIn_exit ⟨A,st,M,h,sim,Chg.refl _ _⟩⟩
  | scope b ih=>
    intro Q A st h
    refine⟨λOth M a w sim=>um ?_⟩
    refine Code.wpF_mono ?_ ((ih _ A st h).out Oth M a w sim)
    rintro e a' w' ⟨A',st',M',h1,h2,h3⟩
    cases e with
    |goto l=>trivial
    |_=>exact⟨A',st',M',h1,h2,h3⟩
  |label l=>intro Q A st h;exact⟨λOth M a w sim=>wpIn_label ⟨A,st,M,h,sim,Chg.refl _ _⟩⟩
  |goto l=>intro Q A st h;exact h.elim
  |ret=>intro Q A st h;exact⟨λOth M a w sim=>wpIn_ret ⟨A,st,M,h,sim,Chg.refl _ _⟩⟩
  |refuse s=>intro Q A st h;exact h.elim
def H9(c:Cfg)(A:Fr)(st:Store):List ResultVar->(List AV->Prop)->Prop
  |[],K=>K []
  | .tmp t::rest,K=>match A.t t with
    |.av x=>H9 c A st rest λl=>K (x::l)
    |_=>False
  |.cell p t::rest,K=>optK (c.I t) λi=>L9 A.bx st (A.t p) λl=>optK (Bc i l) λx=>H9 c A st rest λl=>K (x::l)
def io:List AV->AV
  |[x]=>x
  |l=>.tup l
def Nj(c:Cfg)(rs:List ResultVar)(R:Ja)(A:Fr)(st:Store):Prop:=
  H9 c A st rs λl=>∃r st',AV.le (io l) r/\st.Has st'/\R r st'
def Sr(c:Cfg)(rs:List ResultVar)(R:Ja):Exit->Fr->Store->Prop
  |.normal=>Nj c rs R
  |.ret=>Nj c rs R
  |_=>λ_ _=>False
def Pv(args:List AV)(i:Nat):LV:=
  match args,i with
  |[],_=>.und
  |x::_,0=>.av x
  |_::l,i+1=>Pv l i
def vw(args:List AV):Fr:=⟨Pv args,λ_=>none⟩
theorem cg(args:List AV)(i:Nat):Pv args i=match args[i]? with|some x=>.av x|none=>.und:=by
  induction args generalizing i with
  |nil=>rfl
  | cons x l ih=>
    cases i with
    |zero=>rfl
    |succ i=>simp[Pv,ih]
theorem ip(hI:yh P c.I){w:World}{T:Nat->Nat->Prop}{β:Nat->Nat}{A:Fr}{st:Store}{a:Act}(he:Env w T β A.ev A.bx st a.eval):∀(rs:List ResultVar) (K:List AV->Prop),H9 c A st rs K->
    ∃l vs,K l/\(rs.mapM (m:=Sem) λ|.tmp t=>pure (a.tmps.getD t undef)|.cell p t=>do loadVar t (<-asAddr (a.tmps.getD p undef))).run P w=.ok vs w/\Reads w T l vs:=by
  intro rs
  induction rs with
  |nil=>intro K h;exact⟨[],[],h,by simp,Reads.nil⟩
  | cons r rs ih=>
    intro K h
    cases r with
    | tmp t=>
      simp only[H9]at h
      split at h
      · rename_i x hx
        obtain⟨l,vs,h1,h2,h3⟩:=ih _ h
        refine⟨x::l,a.tmps.getD t undef::vs,h1,by simp_all,Reads.cons ?_ h3⟩
        have:=he.ev (.tmp t)
        simp only[Fr.ev,hx]at this
        exact this
      grind
    | cell p t=>
      simp only[H9]at h
      obtain⟨i,hi,h⟩:=zj h
      obtain⟨cl,hcl,_,hs⟩:=sj (ev:=A.ev) h
      obtain⟨x,hx,hcl⟩:=zj hcl
      obtain⟨b,off,hv,hav⟩:=hs w T β a.eval he _ (he.ev (.tmp p))
      obtain⟨v,hr,hvr⟩:=nc (P:=P) (hI _ _ hi) hav hx
      obtain⟨l,vs,h1,h2,h3⟩:=ih _ hcl
      have hv':a.tmps.getD p undef=.pointer (some ⟨b,off,none⟩):=hv
      refine⟨x::l,v::vs,h1,?_,Reads.cons hvr h3⟩
      grind[asAddr,Sem.run_bind,Sem.run_pure,Result.andThen_ok]
theorem zt1{w:World}{T:Nat->Nat->Prop}{l:List AV}{vs:List Value}(h:Reads w T l vs):VRel w T (io l) (if h:vs.toArray.size=1 then vs.toArray[0]else .tuple vs.toArray):=by
  obtain⟨hl,hr⟩:=h
  match l,vs,hl with
  |[x],[v],_=>exact hr 0 x v rfl rfl
  |[],[],_=>exact js ⟨rfl,hr⟩
  | x::y::l,u::v::vs,hl=>
    have:¬(u::v::vs).toArray.size=1:=by simp
    rw[dif_neg this]
    exact js ⟨by omega,by omega⟩
def Dp(w:World)(b:Nat)(o:Obj):World:={w with heap:=w.heap.setIfInBounds b o}
theorem zuq{w:World}{b:Nat}{o:Obj}(h:b<w.heap.size):(Dp w b o).heap[b]?=some o:=by simp[Dp,h]
theorem Sz{w:World}{b k:Nat}{o:Obj}(h:k≠b):(Dp w b o).heap[k]?=w.heap[k]?:=by simp_all[Dp,Ne.symm]
theorem zup{w:World}{b:Nat}{o:Obj}:(Dp w b o).heap.size=w.heap.size:=by simp[Dp]
theorem zs4{w:World}{b:Nat}(h:w.heap[b]?=some (.deferred (some []))):(Instr.takeDeferred b).run P w=.ok [] (Dp w b (.deferred none)):=by simp_all[Instr.takeDeferred,getObj,setObj,Sem.run,Dp]
structure Shut(Oth M:Nat->Nat->Prop)(w w':World):Prop where
  size:w'.heap.size=w.heap.size
  blk:∀b,w'.heap[b]?=w.heap[b]?\/(w.heap[b]?=some (.deferred (some []))/\w'.heap[b]?=some (.deferred none)/\∀o,¬M b o/\¬Oth b o)
  tape:w'.tape=w.tape
  os:w'.os=w.os
  output:w'.output=w.output
theorem Shut.keeps{Oth M:Nat->Nat->Prop}{w w':World}(h:Shut Oth M w w')(T:Nat->Nat->Prop):Keeps w T w' T where
  cell b o c hc _:=by
    rcases h.blk b with e|⟨e,_,_⟩
    · rw[Ci e];exact hc
    · simp[World.cell?,e]at hc
  out _ _ _ _ hT:=hT
  shp b c e fr hw:=by
    rcases h.blk b with e'|⟨e',_,_⟩
    · grind
    grind
theorem Shut.sto{Oth M:Nat->Nat->Prop}{w w':World}{st:Store}(h:Shut Oth M w w')(s:StoreOK st Oth M w):StoreOK st Oth M w' where
  obj b x hx:=by
    have h1:=s.obj b x hx
    refine⟨ObjRel.same h1.1 (h.keeps _) ?_,h1.2⟩
    rcases h.blk b with e|⟨_,_,e⟩
    · exact e
    simp_all
  tok b top ht:=by
    obtain⟨c,e,fr,h1,h2,h3,h4⟩:=s.tok b top ht
    refine⟨c,e,fr,?_,h2,h3,h4⟩
    rcases h.blk b with e'|⟨e',_,_⟩
    · grind
    grind
  mlt b o hm:=by rw[h.size];exact s.mlt b o hm
  olt b o hm:=by rw[h.size];exact s.olt b o hm
  dis:=s.dis
theorem zxr{Oth M:Nat->Nat->Prop}{fn:Func}{tmps:Array Value}{R:Ending->World->Prop}:∀(ds:List Deferred) (w:World),Marks Oth M w ds->
    (∀w',Shut Oth M w w'->∃v,(results fn tmps).run P w'=.ok v w'/\R (.returned v) w')->LeavesInM Fence.wide 0 P fn tmps R ds .returning w:=by
  intro ds
  induction ds with
  |nil=>intro w _ h;exact h w ⟨rfl,λ_=>.inl rfl,rfl,rfl,rfl⟩
  | cons d ds ih=>
    intro w hm h
    obtain⟨D,rfl,h1,h2⟩:=hm.all d (Fa6)
    have hnd:=Fcd.1 hm.nd
    have hne:∀d'∈ds,∀D',d'={target:=.collected D',args:=#[]}->D'≠D:=λd' hd' D' e e2=>hnd.1 d' hd' (by rw[e,e2])
    refine⟨by simp,.inl ⟨D,Dp w D (.deferred none),rfl,zs4 h1,ih _ ⟨hnd.2,λd' hd'=>?_⟩ λw' hs=>h w' ?_⟩⟩
    · obtain⟨D',e,h3,h4⟩:=hm.all d' (Fav _ hd')
      grind[Sz]
    · refine⟨hs.size.trans zup,λb=>?_,hs.tape,hs.os,hs.output⟩
      by_cases hb:b=D
      · subst hb
        refine .inr ⟨h1,?_,h2⟩
        rcases hs.blk b with e|⟨e,_,_⟩
        · rw[e];exact zuq (C0 h1)
        omega
      · rcases hs.blk b with e|⟨e,e2,e3⟩
        · exact .inl (e.trans (Sz hb))
        grind[Sz]
def Cs(Oth M:Nat->Nat->Prop)(w:World):Nat->Nat->Prop:=λb o=>Oth b o\/(b<w.heap.size/\¬M b o/\∀c e fr,w.heap[b]?=some (.cells c e fr)->c.size<=o)
theorem lq{Oth M:Nat->Nat->Prop}(w:World):Keeps w (λb o=>M b o\/Oth b o) w (λb o=>M b o\/Cs Oth M w b o) where
  cell _ _ _ h _:=h
  out b o v hc hT:=by
    rintro(h|h|⟨_,_,h⟩)
    · grind
    · grind
    grind[World.cell?]
  shp b c e fr h:=⟨c,fr,h,rfl⟩
theorem zvb{Oth M:Nat->Nat->Prop}{w:World}{st:Store}(s:StoreOK st Oth M w):StoreOK st (Cs Oth M w) M w where
  obj b x hx:=⟨ObjRel.same (s.obj b x hx).1 (lq w) rfl,(s.obj b x hx).2⟩
  tok:=s.tok
  mlt:=s.mlt
  olt b o h:=h.elim (s.olt b o) λh=>h.1
  dis b o h:=h.elim (s.dis b o) λh=>h.2.1
theorem zvc{Oth M:Nat->Nat->Prop}{w:World}{st:Store}{R:Ja}{r:AV}{v:Value}{st':Store}{M':Nat->Nat->Prop}{w' w'':World}(s:StoreOK st Oth M w)(hR:R r st')(hr:VRel w'' (λb o=>M' b o\/Cs Oth M w b o) r v)
    (sto:StoreOK st' (Cs Oth M w) M' w') (hc:Chg M w M' w') (hs:Shut (Cs Oth M w) M' w' w''):qh st R Oth M w v w'':=by
  have hT:∀b o,(M' b o\/Oth b o)->(M' b o\/Cs Oth M w b o):=λb o h=>h.imp id .inl
  have sto':=hs.sto sto
  refine⟨r,st',M',hR,hr.mono hT,⟨λb x hx=>⟨(sto'.obj b x hx).1.mono hT,(sto'.obj b x hx).2⟩,sto'.tok,sto'.mlt,λb o h=>sto'.olt b o (.inl h),λb o h=>sto'.dis b o (.inl h)⟩,?_⟩
  refine{size:=by rw[hs.size];exact hc.size,keep:=λb o hb hm=>?_,blk:=λb hb hm=>?_,shp:=λb c e fr hw=>?_,sub:=hc.sub,tape:=hs.tape.trans hc.tape,os:=hs.os.trans hc.os,output:=hs.output.trans hc.output}
  · rw[<-hc.keep b o hb hm]
    rcases hs.blk b with e|⟨e,e2,_⟩
    · exact Ci e o
    · simp[World.cell?,e,e2]
  · rcases hs.blk b with e|⟨_,_,e⟩
    · exact e.trans (hc.blk b hb hm)
    · exfalso
      cases hx:w.heap[b]? with
      | none=>
        grind
      | some x=>
        cases x with
        |cells c e1 fr=>exact(e c.size).2 (.inr ⟨hb,hm _,λc' e' fr' h=>by grind⟩)
        |_=>exact(e 0).2 (.inr ⟨hb,hm _,λc' e' fr' h=>by grind⟩)
  · obtain⟨c',fr',h1,h2⟩:=hc.shp b c e fr hw
    refine⟨c',fr',?_,h2⟩
    rcases hs.blk b with e'|⟨e',_,_⟩
    · grind
    grind
theorem ACalls.of_awp (hI : yh P c.I) {g : FuncId} {fn : Func} {code : Code} {args : List AV} {st : Store} {R : Ja} (hf : P.funcs[g]? = some fn) (hb : fn.body = some code) (hname : (fn.name == "runtime.NumGoroutine") = false)
    (hn:fn.ntmps=c.n) (hlen:Nat.ble args.length c.n=true) (h:AWp P c code (Sr c fn.results.toList R) (vw args) st) (hround:c.round=none:=by rfl) (hD:c.D0=[]:=by rfl):ACalls P g args st R:=by
  refine⟨λOth M w vs sto hr=>?_⟩
  have hrun:(callFunc g vs).run P w=.ok (.enter g vs) w:=by simp_all[callFunc]
  rw[hrun]
  simp only[Mj]
  have hF:c.F=Fence.wide:=by unfold Cfg.F;rw[hround];rfl
  refine(callsIn_wide (n:=0)).1 (callsIn_of_wp_marks hf hb trivial ?_)
  have hle:args.length<=c.n:=Fbe hlen
  have hsz:vs.size=args.length:=by simpa using hr.1.symm
  let a:Act:={tmps:=vs++Array.replicate (fn.ntmps-vs.size) undef,defers:=[]}
  have sim:SimB c.N (Cs Oth M w) (λ_=>0) (vw args) st M a w:=
    { tsz:=by show Array.size _=c.n;grind
      dfr:=MarksD.nil hD
      tm:=λi=>by
        simp only[vw,cg,a]
        rw[Fba]
        by_cases hi:i<vs.size
        · rw[Fcu hi,Fa9 hi,Fab (by omega)]
          exact(hr.2 i _ _ (Fab (by omega)) (by simp[hi])).keep (lq w)
        grind[LRel]
      bx:=λk l hk=>by trivial
      inj:=λk k' hk=>by trivial
      sep:=λk b hk=>by trivial
      sto:=zvb sto}
  have h2:=h.out (Cs Oth M w) M a w ⟨_,sim⟩
  rw[hF]at h2
  refine Code.wpF_mono ?_ h2
  have fin:∀a' w' A' st' M',Nj c fn.results.toList R A' st'->Sim c.N (Cs Oth M w) A' st' M' a' w'->Chg M w M' w'->
      LeavesInM Fence.wide 0 P fn a'.tmps (λe w'=>∃v,e=.returned v/\qh st R Oth M w v w') a'.defers .returning w':=by
    rintro a' w' A' st' M' hret ⟨β,s⟩ hchg
    refine zxr a'.defers w' (s.dfr.out hD) λw'' hs=>?_
    have hblk:∀b o,M' b o->w''.heap[b]?=w'.heap[b]?:=λb o hm=>by
      rcases hs.blk b with e|⟨_,_,e⟩
      · exact e
      grind
    have he:Env w'' (λb o=>M' b o\/Cs Oth M w b o) β A'.ev A'.bx st' a'.eval:=
      ⟨λx=>(s.ev x).keep (hs.keeps _),λk l hk=>(s.bx k l hk).1.same (hs.keeps _) (hblk _ 0 ((s.bx k l hk).2 0)),λb x hx=>((hs.sto s.sto).obj b x hx).1⟩
    obtain⟨l,vs,⟨r,st'',h1,h2,h3⟩,h4,h5⟩:=ip hI he _ _ hret
    refine⟨_,?_,_,rfl,zvc sto h3 (h1 _ _ _ (zt1 h5)) (s.sto.weaken h2) hchg hs⟩
    unfold results
    rw[Sem.run_bind,Fds,Sem.run_map]
    exact congrArg (λr=>(Result.andThen (Result.andThen r λl w=>.ok l.toArray w) λ(vs:Array Value) w'=>.ok (if h:vs.size=1 then vs[0]else .tuple vs) w')) h4
  rintro e a' w' ⟨A',st',M',h1,h2,h3⟩
  cases e with
  |normal=>exact fin a' w' A' st' M' h1 h2 h3
  |ret=>exact fin a' w' A' st' M' h1 h2 h3
  |_=>trivial
theorem Qb (hI : yh P c.I) {g : FuncId} {fn : Func} {code : Code} {args : List AV} {st : Store} {R : Ja} (hf : P.funcs[g]? = some fn) (h : AWp P c code (Sr c fn.results.toList R) (vw args) st) (hb : fn.body = some code := by rfl) (hname : (fn.name == "runtime.NumGoroutine") = false := by rfl) (hn : fn.ntmps = c.n := by rfl) (hlen : Nat.ble args.length c.n = true := by rfl) (hround : c.round = none := by rfl) (hD : c.D0 = [] := by rfl): ACalls P g args st R := ACalls.of_awp hI hf hb hname hn hlen h hround hD
theorem ACalls.of_body (hI : yh P c.I) {g : FuncId} {fn : Func} {code : Code} {args : List AV} {st : Store} {R : Ja} (hf : P.funcs[g]? = some fn) (hb : fn.body = some code) (hname : (fn.name == "runtime.NumGoroutine") = false)
    (hn:fn.ntmps=c.n) (hlen:Nat.ble args.length c.n=true) (h:vc P c code (Sr c fn.results.toList R) (vw args) st) (hround:c.round=none:=by rfl) (hD:c.D0=[]:=by rfl):ACalls P g args st R:=
  ACalls.of_awp hI hf hb hname hn hlen (Rq hI code _ _ st h) hround hD
theorem Qa (hI : yh P c.I) {g : FuncId} {fn : Func} {code : Code} {args : List AV} {st : Store} {R : Ja} (hf : P.funcs[g]? = some fn) (h : vc P c code (Sr c fn.results.toList R) (vw args) st) (hb : fn.body = some code := by rfl) (hname : (fn.name == "runtime.NumGoroutine") = false := by rfl) (hn : fn.ntmps = c.n := by rfl) (hlen : Nat.ble args.length c.n = true := by rfl) (hround : c.round = none := by rfl) (hD : c.D0 = [] := by rfl): ACalls P g args st R := ACalls.of_body hI hf hb hname hn hlen h hround hD
def Cc(l:List (Nat×LV))(i:Nat):LV:=
  match l with
  |[]=>.any
  |(j,x)::l=>bif Nat.beq i j then x else Cc l i
def G8(l:List (Nat×List AV))(i:Nat):Option (List AV):=
  match l with
  |[]=>none
  |(j,x)::l=>bif Nat.beq i j then some x else G8 l i
def G6(l:List (Nat×LV))(b:List (Nat×List AV)):Fr:=⟨Cc l,G8 b⟩
def I2(A:Fr):List (Nat×LV)->Prop
  |[]=>True
  |(j,x)::l=>LV.le (A.t j) x/\I2 A l
def I3(A:Fr):List (Nat×List AV)->Prop
  |[]=>True
  |(j,x)::l=>A.bx j=some x/\I3 A l
theorem yar{A:Fr}:∀{l:List (Nat×LV)},I2 A l->∀i,LV.le (A.t i) (Cc l i):=by
  intro l
  induction l with
  |nil=>intro _ i;exact LV.le_any _
  | cons p l ih=>
    obtain⟨j,x⟩:=p
    intro h i
    simp only[Cc]
    by_cases hi:i=j
    · subst hi;simp only[Fbo,cond_true];exact h.1
    · simp only[ym hi,cond_false];exact ih h.2 i
theorem yas{A:Fr}:∀{l:List (Nat×List AV)},I3 A l->∀i x,G8 l i=some x->A.bx i=some x:=by
  intro l
  induction l with
  |nil=>intro _ i x h;trivial
  | cons p l ih=>
    obtain⟨j,y⟩:=p
    intro h i x hx
    simp only[G8]at hx
    by_cases hi:i=j
    · subst hi;simp only[Fbo,cond_true]at hx;rw[<-hx];exact h.1
    · simp only[ym hi,cond_false]at hx;exact ih h.2 i x hx
theorem Sim.fits{n:SN}{Oth M:Nat->Nat->Prop}{A:Fr}{st st':Store}{a:Act}{w:World}(h:Sim n Oth A st M a w){l:List (Nat×LV)}{b:List (Nat×List AV)}(ht:I2 A l)(hb:I3 A b)(hs:st.Has st'):Sim n Oth (G6 l b) st' M a w:=by
  obtain⟨β,s⟩:=h
  have hbx:∀k x,G8 b k=some x->A.bx k=some x:=yas hb
  have hne:∀k,G8 b k≠none->A.bx k≠none:=λk hk=>by
    cases hl:G8 b k with
    |none=>grind
    |some x=>grind
  exact⟨β,
    { tsz:=s.tsz
      dfr:=s.dfr
      tm:=λi=>yar ht i _ _ _ _ (s.tm i)
      bx:=λk x hk=>s.bx k x (hbx k x hk)
      inj:=λk k' h1 h2=>s.inj k k' (hne k h1) (hne k' h2)
      sep:=λk b hk hb=>s.sep k b (hne k hk) (by
        rcases hb with hb|hb
        · cases ho:st'.obj b with
          |none=>grind
          |some x=>exact .inl (by rw[hs.obj b x ho];simp)
        · cases ho:st'.tok b with
          |none=>grind
          |some x=>exact .inr (by rw[hs.tok b x ho];simp))
      sto:=s.sto.weaken hs}⟩
theorem AWp.weaken{code:Code}{Q:Exit->Fr->Store->Prop}{A:Fr}{st st':Store}{l:List (Nat×LV)}{b:List (Nat×List AV)}(h:AWp P c code Q (G6 l b) st')(ht:I2 A l)(hb:I3 A b)(hs:st.Has st'):AWp P c code Q A st:=
  ⟨λOth M a w sim=>h.out Oth M a w (sim.fits ht hb hs)⟩
structure LoopHead(σ:Type) where
  t:σ->List (Nat×LV)
  bx:σ->List (Nat×List AV)
  inv:σ->Store->Prop
  μ:σ->Nat
def LoopHead.at{σ:Type}(H:LoopHead σ)(A:Fr)(st:Store)(p:σ->Prop):Prop:=
  ∃s,p s/\H.inv s st/\I2 A (H.t s)/\I3 A (H.bx s)
def zte{σ:Type}(H:LoopHead σ)(s:σ)(Q:Exit->Fr->Store->Prop):Exit->Fr->Store->Prop
  |.normal=>λA st=>H.at A st λs'=>H.μ s'<H.μ s
  |e=>Q e
theorem AWp.loop{σ:Type}(H:LoopHead σ){b:Code}{Q:Exit->Fr->Store->Prop}{A:Fr}{st:Store}(hI:yh P c.I)(h0:H.at A st λ_=>True)
    (round:∀s st,H.inv s st->vc P c b (zte H s Q) (G6 (H.t s) (H.bx s)) st):AWp P c (.loop b) Q A st:=by
  obtain⟨s0,_,hi0,ht0,hb0⟩:=h0
  refine⟨λOth M a w sim=>?_⟩
  refine wpIn_loop_ghost (λn a' w'=>∃s st' M',H.μ s=n/\H.inv s st'/\Sim c.N Oth (G6 (H.t s) (H.bx s)) st' M' a' w'/\Chg M w M' w') (H.μ s0)
    ⟨s0,st,M,rfl,hi0,sim.fits ht0 hb0 (Store.Has.refl st),Chg.refl M w⟩ ?_
  rintro n a' w' ⟨s,st',M',rfl,hi,hsim,hchg⟩
  refine Code.wpF_mono ?_ ((Rq hI b _ _ st' (round s st' hi)).out Oth M' a' w' hsim)
  rintro e a'' w'' ⟨A'',st'',M'',h1,h2,h3⟩
  cases e with
  | normal=>
    obtain⟨s',hlt,hi',ht',hb'⟩:=h1
    exact⟨H.μ s',hlt,s',st'',M'',rfl,hi',h2.fits ht' hb' (Store.Has.refl st''),hchg.trans h3⟩
  |_=>exact⟨A'',st'',M'',h1,h2,hchg.trans h3⟩
end
section
variable {P:Program} {c:Cfg}
theorem AWp.of_vc(hI:yh P c.I){code:Code}{Q:Exit->Fr->Store->Prop}{A:Fr}{st:Store}(h:vc P c code Q A st):AWp P c code Q A st:=Rq hI code Q A st h
theorem AWp.seq{x y:Code}{Q:Exit->Fr->Store->Prop}{A:Fr}{st:Store}(h:AWp P c x (Mx (AWp P c y Q) Q) A st):AWp P c (.seq x y) Q A st:=by
  refine⟨λOth M a w sim=>wpIn_seq ?_⟩
  refine Code.wpF_mono ?_ (h.out Oth M a w sim)
  rintro e a' w' ⟨A',st',M',h1,h2,h3⟩
  cases e with
  | normal=>
    refine Code.wpF_mono ?_ ((AWp.out h1) Oth M' a' w' h2)
    rintro e a'' w'' ⟨A'',st'',M'',h4,h5,h6⟩
    exact⟨A'',st'',M'',h4,h5,h3.trans h6⟩
  |_=>exact⟨A',st',M',h1,h2,h3⟩
theorem AWp.block{id:Nat}{b:Code}{Q:Exit->Fr->Store->Prop}{A:Fr}{st:Store}(h:AWp P c b (Om id Q) A st):AWp P c (.block id b) Q A st:=by
  refine⟨λOth M a w sim=>wpIn_block ?_⟩
  refine Code.wpF_mono ?_ (h.out Oth M a w sim)
  rintro e a' w' ⟨A',st',M',h1,h2,h3⟩
  cases e with
  | exit id'=>
    simp only[Om]at h1
    simp only[Exit.inBlock]
    by_cases he:id'=id
    · subst he
      simp only[Fbo,cond_true]at h1
      grind
    · simp only[ym he,cond_false]at h1
      grind
  |_=>exact⟨A',st',M',h1,h2,h3⟩
structure Meet(σ:Type) where
  t:σ->List (Nat×LV)
  bx:σ->List (Nat×List AV)
  inv:σ->Store->Prop
def Meet.at{σ:Type}(H:Meet σ)(A:Fr)(st:Store):Prop:=∃s,H.inv s st/\I2 A (H.t s)/\I3 A (H.bx s)
theorem AWp.meet{σ:Type}(H:Meet σ)(hI:yh P c.I){x y:Code}{Q:Exit->Fr->Store->Prop}{A:Fr}{st:Store}(hx:vc P c x (Mx H.at Q) A st)
    (hy:∀s st',H.inv s st'->AWp P c y Q (G6 (H.t s) (H.bx s)) st'):AWp P c (.seq x y) Q A st:=by
  refine AWp.seq ((AWp.of_vc hI hx).mono λe A' st' h=>?_)
  cases e with
  | normal=>
    obtain⟨s,h1,h2,h3⟩:=h
    exact AWp.weaken (hy s st' h1) h2 h3 (Store.Has.refl st')
  |_=>exact h
end
section
variable {P:Program}
def Wy(P:Program)(t:TypeId):Bool:=
  !P.stoodInHeld t && !P.eqGuardType P.depth t && (match P.underlying t with | some (.struct fs) => fs.toList.all fun f => f.name != "_" | _ => true)
def Rh(z:Value)(d:Ty):Bool:=match z with|.agg _=>ww d|_=> !ww d
def infoOf(P:Program)(t:TypeId)(eq:Bool):Option TI:=
  match P.info? t,P.underlying t with
  | some inf,some d=>match inf.zero with
    |some z=>bif Nat.beq z.cells.toList.length inf.size&&(!eq||Wy P t)&&Rh z (wo d)then some {ty:=wo d,size:=inf.size,bytes:=inf.bytes,zero:=z.cells.toList,eq:=eq}else none
    |none=>none
  |_,_=>none
theorem zyf{t:TypeId}{eq:Bool}{i:TI}(h:infoOf P t eq=some i):TIok P t i:=by
  unfold infoOf at h
  split at h
  · rename_i inf d hinf hd
    split at h
    · rename_i z hz
      cases hb:(Nat.beq z.cells.toList.length inf.size&&(!eq||Wy P t)&&Rh z (wo d))with
      |false=>grind
      | true=>
        rw[hb]at h
        simp only[cond_true,Fag]at h
        subst h
        simp only[Fau]at hb
        obtain⟨⟨h2,h3⟩,h4⟩:=hb
        refine⟨⟨inf,hinf,rfl,rfl,z,hz,rfl⟩,⟨d,hd,rfl⟩,(xj _ _).1 h2,λinf' z' hi' hz'=>?_,λhe=>?_⟩
        · rw[hinf]at hi'
          cases hi'
          rw[hz]at hz'
          cases hz'
          cases z with
          |agg cs=>exact .inl ⟨h4,cs,rfl⟩
          |_=>exact .inr ⟨by simpa [Rh]using h4,rfl⟩
        simp only at he
        subst he
        simp only[Bool.not_true,Bool.false_or,Wy,Fau,Fbr]at h3
        grind
    · cases h
  · cases h
inductive Tr where
  |nil
  |node (k:Nat) (l:Tr) (x:TI) (r:Tr)
def Tr.get:Tr->Nat->Option TI
  |.nil,_=>none
  |.node k l x r,t=>bif Nat.beq t k then some x else bif Nat.blt t k then l.get t else r.get t
def Tr.all(P:Program):Tr->Prop
  |.nil=>True
  |.node k l x r=>infoOf P k x.eq=some x/\l.all P/\r.all P
theorem Tr.ok:∀(tr:Tr),tr.all P->yh P tr.get:=by
  intro tr
  induction tr with
  |nil=>intro _ t i h;cases h
  | node k l x r ihl ihr=>
    rintro⟨h1,h2,h3⟩ t i h
    simp only[Tr.get]at h
    by_cases ht:t=k
    · subst ht
      simp only[Fbo,cond_true,Fag]at h
      subst h
      exact zyf h1
    · simp only[ym ht,cond_false]at h
      cases hb:Nat.blt t k with
      |true=>rw[hb]at h;exact ihl h2 t i h
      |false=>rw[hb]at h;exact ihr h3 t i h
inductive Tr2 where
  |nil
  |node (l:Tr2) (x:Option TI) (r:Tr2)
def Tr.look(P:Program):Tr->Tr2
  |.nil=>.nil
  |.node k l x r=>.node (l.look P) (infoOf P k x.eq) (r.look P)
def Tr.vals:Tr->Tr2
  |.nil=>.nil
  |.node _ l x r=>.node l.vals (some x) r.vals
theorem Tr.of_look:∀(t:Tr),t.look P=t.vals->t.all P
  |.nil,_=>True.intro
  | .node k l x r,h=>by
    simp only[Tr.look,Tr.vals,Tr2.node.injEq]at h
    exact⟨h.2.1,Tr.of_look l h.1,Tr.of_look r h.2.2⟩
end
section
variable {st st':Store} {k:Nat} {v:AV}
def App(k:Nat)(st:Store)(v:AV)(rows:List (List AV))(st':Store):Prop:=
  (v=.s (.slice none 0 0)/\rows=[]/\st'=st)\/Owned k st v rows st'
theorem App.start(k:Nat)(st:Store):App k st (.s (.slice none 0 0)) [] st:=.inl ⟨rfl,rfl,rfl⟩
theorem zqb{b:Nat}{x:Option Nat}(h:st.tok b=none):(st.sT b x).sT b none=st:=by
  unfold Store.sT
  congr
  grind[ym]
theorem App.has{rows:List (List AV)}(h:App k st v rows st'):st'.Has st:=by
  rcases h with⟨_,_,rfl⟩|⟨_,_,rfl⟩|⟨_,b,hb,_,rfl⟩
  · exact Store.Has.refl _
  · exact Store.Has.refl _
  · refine⟨λ_ _ h=>h,λi x h=>?_⟩
    have:i≠b:=λe=>by rw[e,hb.2]at h;cases h
    simpa [Store.sT,ym this]using h
theorem App.le{rows:List (List AV)}(h:App k st v rows st'):AV.le v (.lst k rows none):=by
  rcases h with⟨rfl,rfl,_⟩|⟨rfl,rfl,_⟩|⟨_,b,hb,rfl,_⟩
  · exact AV.le_nil k
  · intro w T v h
    cases h with
    | emp a h=>
      cases a with
      |none=>exact .nil k none
      | some a=>
        obtain⟨b,off,spot⟩:=a
        simp_all[VRel.empty]
  · exact AV.le_tok _ _ _
theorem Bo{c:Cfg}{e:TypeId}{ie:TI}{x:LV}{K:Ja}{rows rows':List (List AV)}(h:App ie.size st v rows st')(hie:c.I e=some ie)(hx:jv ie.size x=some rows')
    (hroom:room (rows.length+rows'.length) ie.bytes) (hK:∀v2 st2,App ie.size st v2 (rows++rows') st2->K v2 st2) {P:Program} (hp:Nat.blt 0 ie.size=true:=by rfl):appendK P c st' e (.av v) x K:=by
  refine⟨.inl (za ie hie ?_)⟩
  rcases h with⟨rfl,rfl,rfl⟩|⟨rfl,rfl,rfl⟩|⟨hne,b,hb,rfl,rfl⟩
  · exact za rows' hx ⟨by grind,λv st2 ho=>hK v st2 (.inr (by grind))⟩
  · exact za rows' hx ⟨by grind,λv st2 ho=>hK v st2 (.inr (by grind))⟩
  · show(bif Nat.beq ie.size ie.size&&Nat.blt 0 ie.size then _ else False)
    rw[Fbo,hp,Fdx,cond_true]
    refine za rows' hx ⟨by simp[Store.sT],by grind,λv st2 ho=>hK v st2 (.inr ?_)⟩
    rwa [zqb hb.2]at ho
end
end Go.V
